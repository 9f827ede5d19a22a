/-
  Lemmas and walks, put together: Ib Ih Ik Ba Jb Ii.
-/
import Derived.Test.YtoanpdoacdpgeaaGreatDoorKq24
set_option linter.unusedSimpArgs false
set_option linter.unusedVariables false
set_option maxRecDepth 20000
namespace Go.SL
open Go Go.Proofs
attribute [local irreducible] W WL WQ WG WA WX WLI WR WT WC WE VOp RW thn blk bE scp aV bo bI aK FnIn FnP ceP
theorem Fv (L:List Et) (tv:Value) (w:World) (ht:Reads w tv L.length (L.flatMap aJ)) (hlen:L.length≤1000000):
  aK Tryz.prog 74 [tv] w fun v H=> ∃ A cap,v=sl A L.length cap∧H= [.own A 52 3 L.length cap (L.flatMap aJ)]:=by
 have ht' :=ht
 obtain ⟨At,ct,rfl,ht1,ht2,ht3⟩:=ht
 refine aq Tryz.func74 rfl Tryz.ntmps74 rfl ?_
 have hl:(L.flatMap aJ).length=L.length*3:=aP bJ L
 refine aH 52 3 ?_
 repeat' (first|(apply ak;exact rfl;apply kT;exact rfl)|(apply dq;exact rfl;intro gb)|(apply dr (n' :=0) (c:=0) (A:=some _) (m:=L.length);(iterate 3 exact rfl);exact pK;(intro w hm;exact ht'.of_w0 hm);exact hl;exact wq L;omega;(simp only [maxLen];omega);intro A' cap' hA)|refine sT ?_|refine sM fun _=> ?_|(refine sC ?_ ?_<;>intro hb<;>try omega)|fail)
 ·
  have e:L.length=0:=by
   rcases Sf L.length with h|h
   ·
    exact h
   ·
    obtain ⟨g,o,rfl,_⟩:=ht3 h
    cases hb
  have e' :L= []:=RK e
  subst e'
  exact cH (.inl rfl) Tryz.results74 rfl (.refl _) ⟨none,0,rfl,rfl⟩
 ·
  exact cH (.inl rfl) Tryz.results74 rfl (H' := [.own A' 52 3 (0+L.length) cap' ([]++L.flatMap aJ)]) mS ⟨A',cap',by rw [RB],by rw [RB];rfl⟩
theorem Fs (L:List Rl) (tv:Value) (w:World) (ht:Reads w tv L.length (L.flatMap bu)) (hlen:L.length≤1000000):
  aK Tryz.prog 75 [tv] w fun v H=> ∃ A cap,v=sl A L.length cap∧H= [.own A 54 7 L.length cap (L.flatMap bu)]:=by
 have ht' :=ht
 obtain ⟨At,ct,rfl,ht1,ht2,ht3⟩:=ht
 refine aq Tryz.func75 rfl Tryz.ntmps75 rfl ?_
 have hl:(L.flatMap bu).length=L.length*7:=aP dm L
 refine aH 54 7 ?_
 repeat' (first|(apply ak;exact rfl;apply kT;exact rfl)|(apply dq;exact rfl;intro gb)|(apply dr (n' :=0) (c:=0) (A:=some _) (m:=L.length);(iterate 3 exact rfl);exact pK;(intro w hm;exact ht'.of_w0 hm);exact hl;exact EP L;omega;(simp only [maxLen];omega);intro A' cap' hA)|refine sT ?_|refine sM fun _=> ?_|(refine sC ?_ ?_<;>intro hb<;>try omega)|fail)
 ·
  have e:L.length=0:=by
   rcases Sf L.length with h|h
   ·
    exact h
   ·
    obtain ⟨g,o,rfl,_⟩:=ht3 h
    cases hb
  have e' :L= []:=RK e
  subst e'
  exact cH (.inl rfl) Tryz.results75 rfl (.refl _) ⟨none,0,rfl,rfl⟩
 ·
  exact cH (.inl rfl) Tryz.results75 rfl (H' := [.own A' 54 7 (0+L.length) cap' ([]++L.flatMap bu)]) mS ⟨A',cap',by rw [RB],by rw [RB];rfl⟩
theorem Ft (L:List Gn) (tv:Value) (w:World) (ht:Reads w tv L.length (L.flatMap bn)) (hlen:L.length≤1000000):
  aK Tryz.prog 76 [tv] w fun v H=> ∃ A cap,v=sl A L.length cap∧H= [.own A 56 8 L.length cap (L.flatMap bn)]:=by
 have ht' :=ht
 obtain ⟨At,ct,rfl,ht1,ht2,ht3⟩:=ht
 refine aq Tryz.func76 rfl Tryz.ntmps76 rfl ?_
 have hl:(L.flatMap bn).length=L.length*8:=aP cX L
 refine aH 56 8 ?_
 repeat' (first|(apply ak;exact rfl;apply kT;exact rfl)|(apply dq;exact rfl;intro gb)|(apply dr (n' :=0) (c:=0) (A:=some _) (m:=L.length);(iterate 3 exact rfl);exact pK;(intro w hm;exact ht'.of_w0 hm);exact hl;exact ER L;omega;(simp only [maxLen];omega);intro A' cap' hA)|refine sT ?_|refine sM fun _=> ?_|(refine sC ?_ ?_<;>intro hb<;>try omega)|fail)
 ·
  have e:L.length=0:=by
   rcases Sf L.length with h|h
   ·
    exact h
   ·
    obtain ⟨g,o,rfl,_⟩:=ht3 h
    cases hb
  have e' :L= []:=RK e
  subst e'
  exact cH (.inl rfl) Tryz.results76 rfl (.refl _) ⟨none,0,rfl,rfl⟩
 ·
  exact cH (.inl rfl) Tryz.results76 rfl (H' := [.own A' 56 8 (0+L.length) cap' ([]++L.flatMap bn)]) mS ⟨A',cap',by rw [RB],by rw [RB];rfl⟩
theorem Fu (L:List Ev) (tv:Value) (w:World) (ht:Reads w tv L.length (L.flatMap bf)) (hlen:L.length≤1000000):
  aK Tryz.prog 77 [tv] w fun v H=> ∃ A cap,v=sl A L.length cap∧H= [.own A 58 9 L.length cap (L.flatMap bf)]:=by
 have ht' :=ht
 obtain ⟨At,ct,rfl,ht1,ht2,ht3⟩:=ht
 refine aq Tryz.func77 rfl Tryz.ntmps77 rfl ?_
 have hl:(L.flatMap bf).length=L.length*9:=aP gC L
 refine aH 58 9 ?_
 repeat' (first|(apply ak;exact rfl;apply kT;exact rfl)|(apply dq;exact rfl;intro gb)|(apply dr (n' :=0) (c:=0) (A:=some _) (m:=L.length);(iterate 3 exact rfl);exact pK;(intro w hm;exact ht'.of_w0 hm);exact hl;exact ES L;omega;(simp only [maxLen];omega);intro A' cap' hA)|refine sT ?_|refine sM fun _=> ?_|(refine sC ?_ ?_<;>intro hb<;>try omega)|fail)
 ·
  have e:L.length=0:=by
   rcases Sf L.length with h|h
   ·
    exact h
   ·
    obtain ⟨g,o,rfl,_⟩:=ht3 h
    cases hb
  have e' :L= []:=RK e
  subst e'
  exact cH (.inl rfl) Tryz.results77 rfl (.refl _) ⟨none,0,rfl,rfl⟩
 ·
  exact cH (.inl rfl) Tryz.results77 rfl (H' := [.own A' 58 9 (0+L.length) cap' ([]++L.flatMap bf)]) mS ⟨A',cap',by rw [RB],by rw [RB];rfl⟩
theorem Fm (L:List Rv) (tv:Value) (w:World) (ht:Reads w tv L.length (L.flatMap aO)) (hlen:L.length≤100000000):
  aK Tryz.prog 78 [tv] w fun v H=> ∃ A cap,v=sl A L.length cap∧H= [.own A 62 11 L.length cap (L.flatMap aO)]:=by
 have ht' :=ht
 obtain ⟨At,ct,rfl,ht1,ht2,ht3⟩:=ht
 refine aq Tryz.func78 rfl Tryz.ntmps78 rfl ?_
 have hl:(L.flatMap aO).length=L.length*11:=aP cB L
 refine aH 62 11 ?_
 repeat' (first|(apply ak;exact rfl;apply kT;exact rfl)|(apply dq;exact rfl;intro gb)|(apply dr (n' :=0) (c:=0) (A:=some _) (m:=L.length);(iterate 3 exact rfl);exact pK;(intro w hm;exact ht'.of_w0 hm);exact hl;exact pM L;omega;(simp only [maxLen];omega);intro A' cap' hA)|refine sT ?_|refine sM fun _=> ?_|(refine sC ?_ ?_<;>intro hb<;>try omega)|fail)
 ·
  have e:L.length=0:=by
   rcases Sf L.length with h|h
   ·
    exact h
   ·
    obtain ⟨g,o,rfl,_⟩:=ht3 h
    cases hb
  have e' :L= []:=RK e
  subst e'
  exact cH (.inl rfl) Tryz.results78 rfl (.refl _) ⟨none,0,rfl,rfl⟩
 ·
  exact cH (.inl rfl) Tryz.results78 rfl (H' := [.own A' 62 11 (0+L.length) cap' ([]++L.flatMap aO)]) mS ⟨A',cap',by rw [RB],by rw [RB];rfl⟩
theorem Fj (L M:List Et) (lv mv:Value) (w:World) (hl:Reads w lv L.length (L.flatMap aJ)) (hm:Reads w mv M.length (M.flatMap aJ)):
  ay Tryz.prog 66 [lv,mv] w (.bool (decide (L=M))):=by
 obtain ⟨Al,cl,rfl,hl1,hl2,hl3⟩:=hl
 obtain ⟨Am,cm,rfl,hm1,hm2,hm3⟩:=hm
 refine aq Tryz.func66 rfl Tryz.ntmps66 rfl ?_
 by_cases hlen:L.length=M.length
 ·
  repeat' (first|refine sT ?_|refine sS ?_|refine sM fun _=> ?_|(refine sC ?_ ?_<;>intro hb<;>try omega)|fail)
  refine ax [0,1,12] rfl (fun i:Nat=> [(13,.int .i64 (i:Int))]) (fun _=> []) (fun i=>i≤L.length∧decide (L=M)=decide (L.drop i=M.drop i)) (fun i=>L.length - i) 0 ⟨by omega,rfl⟩ ?_ ?_ ?_
  ·
   exact sB
  ·
   exact mS
  ·
   rintro i ⟨hi,hrec⟩
   by_cases hlt:i<L.length
   ·
    have hlt2:i<M.length:=by omega
    obtain ⟨gl,ol,rfl,hrl⟩:=hl3 (by omega)
    obtain ⟨gm,om,rfl,hrm⟩:=hm3 (by omega)
    have he1:=hrl.elem bJ i hlt
    have he2:=hrm.elem bJ i hlt2
    rw [ou hlt hlt2] at hrec
    repeat' (first|(apply aS;exact rfl;apply aj;exact rfl;exact rfl;(first|exact hlt|exact hlt2))|(apply aS;exact rfl;apply aB;exact rfl;(first|exact he1|exact he2);exact rfl)|(apply aS;exact rfl;apply MA;exact rfl;exact rfl)|(apply ak;exact rfl;apply fq;exact rfl;exact rfl;(simp only [maxLen] at*;omega))|refine sT ?_|refine sS ?_|refine sQ ?_|refine sD ?_|refine sM fun _=> ?_|(refine sC ?_ ?_<;>intro hb<;>try omega)|(refine sCQ ?_ ?_<;>intro hb<;>try omega)|fail)
    all_goals first
     |(exfalso;omega)
     |((refine rT1 ?_);rw [hrec];simp_all;done)
     |(refine ⟨i+1,⟨by omega,?_⟩,by omega,by exact sB,by exact sB,by exact mS⟩;rw [hrec];simp_all;done)
   ·
    have e:i=L.length:=by omega
    subst e
    repeat' (first|refine sT ?_|refine sS ?_|refine sM fun _=> ?_|(refine sC ?_ ?_<;>intro hb<;>try omega)|fail)
    (refine rT1 ?_)
    rw [hrec,RE,hlen,RE]
    rfl
 ·
  repeat' (first|refine sT ?_|refine sS ?_|refine sM fun _=> ?_|(refine sC ?_ ?_<;>intro hb<;>try omega)|fail)
  (refine rT1 ?_)
  rw [decide_eq_false]
  intro e
  exact hlen (congrArg List.length e)
theorem Ff (L M:List Rl) (lv mv:Value) (w:World) (hl:Reads w lv L.length (L.flatMap bu)) (hm:Reads w mv M.length (M.flatMap bu)):
  ay Tryz.prog 67 [lv,mv] w (.bool (decide (L=M))):=by
 obtain ⟨Al,cl,rfl,hl1,hl2,hl3⟩:=hl
 obtain ⟨Am,cm,rfl,hm1,hm2,hm3⟩:=hm
 refine aq Tryz.func67 rfl Tryz.ntmps67 rfl ?_
 by_cases hlen:L.length=M.length
 ·
  repeat' (first|refine sT ?_|refine sS ?_|refine sM fun _=> ?_|(refine sC ?_ ?_<;>intro hb<;>try omega)|fail)
  refine ax [0,1,12] rfl (fun i:Nat=> [(13,.int .i64 (i:Int))]) (fun _=> []) (fun i=>i≤L.length∧decide (L=M)=decide (L.drop i=M.drop i)) (fun i=>L.length - i) 0 ⟨by omega,rfl⟩ ?_ ?_ ?_
  ·
   exact sB
  ·
   exact mS
  ·
   rintro i ⟨hi,hrec⟩
   by_cases hlt:i<L.length
   ·
    have hlt2:i<M.length:=by omega
    obtain ⟨gl,ol,rfl,hrl⟩:=hl3 (by omega)
    obtain ⟨gm,om,rfl,hrm⟩:=hm3 (by omega)
    have he1:=hrl.elem dm i hlt
    have he2:=hrm.elem dm i hlt2
    rw [ou hlt hlt2,← Lj] at hrec
    repeat' (first|(apply aS;exact rfl;apply aj;exact rfl;exact rfl;(first|exact hlt|exact hlt2))|(apply aS;exact rfl;apply aB;exact rfl;(first|exact he1|exact he2);exact rfl)|(apply aS;exact rfl;apply Mw;exact rfl;exact rfl)|(apply ak;exact rfl;apply fq;exact rfl;exact rfl;(simp only [maxLen] at*;omega))|refine sT ?_|refine sS ?_|refine sQ ?_|refine sD ?_|refine sM fun _=> ?_|(refine sC ?_ ?_<;>intro hb<;>try omega)|(refine sCQ ?_ ?_<;>intro hb<;>try omega)|fail)
    all_goals first
     |(exfalso;omega)
     |((refine rT1 ?_);rw [hrec];simp_all;done)
     |(refine ⟨i+1,⟨by omega,?_⟩,by omega,by exact sB,by exact sB,by exact mS⟩;rw [hrec];simp_all;done)
   ·
    have e:i=L.length:=by omega
    subst e
    repeat' (first|refine sT ?_|refine sS ?_|refine sM fun _=> ?_|(refine sC ?_ ?_<;>intro hb<;>try omega)|fail)
    (refine rT1 ?_)
    rw [hrec,RE,hlen,RE]
    rfl
 ·
  repeat' (first|refine sT ?_|refine sS ?_|refine sM fun _=> ?_|(refine sC ?_ ?_<;>intro hb<;>try omega)|fail)
  (refine rT1 ?_)
  rw [decide_eq_false]
  intro e
  exact hlen (congrArg List.length e)
theorem Fg (L M:List Gn) (lv mv:Value) (w:World) (hl:Reads w lv L.length (L.flatMap bn)) (hm:Reads w mv M.length (M.flatMap bn)):
  ay Tryz.prog 68 [lv,mv] w (.bool (decide (L=M))):=by
 obtain ⟨Al,cl,rfl,hl1,hl2,hl3⟩:=hl
 obtain ⟨Am,cm,rfl,hm1,hm2,hm3⟩:=hm
 refine aq Tryz.func68 rfl Tryz.ntmps68 rfl ?_
 by_cases hlen:L.length=M.length
 ·
  repeat' (first|refine sT ?_|refine sS ?_|refine sM fun _=> ?_|(refine sC ?_ ?_<;>intro hb<;>try omega)|fail)
  refine ax [0,1,12] rfl (fun i:Nat=> [(13,.int .i64 (i:Int))]) (fun _=> []) (fun i=>i≤L.length∧decide (L=M)=decide (L.drop i=M.drop i)) (fun i=>L.length - i) 0 ⟨by omega,rfl⟩ ?_ ?_ ?_
  ·
   exact sB
  ·
   exact mS
  ·
   rintro i ⟨hi,hrec⟩
   by_cases hlt:i<L.length
   ·
    have hlt2:i<M.length:=by omega
    obtain ⟨gl,ol,rfl,hrl⟩:=hl3 (by omega)
    obtain ⟨gm,om,rfl,hrm⟩:=hm3 (by omega)
    have he1:=hrl.elem cX i hlt
    have he2:=hrm.elem cX i hlt2
    rw [ou hlt hlt2,← Ln] at hrec
    repeat' (first|(apply aS;exact rfl;apply aj;exact rfl;exact rfl;(first|exact hlt|exact hlt2))|(apply aS;exact rfl;apply aB;exact rfl;(first|exact he1|exact he2);exact rfl)|(apply aS;exact rfl;apply My;exact rfl;exact rfl)|(apply ak;exact rfl;apply fq;exact rfl;exact rfl;(simp only [maxLen] at*;omega))|refine sT ?_|refine sS ?_|refine sQ ?_|refine sD ?_|refine sM fun _=> ?_|(refine sC ?_ ?_<;>intro hb<;>try omega)|(refine sCQ ?_ ?_<;>intro hb<;>try omega)|fail)
    all_goals first
     |(exfalso;omega)
     |((refine rT1 ?_);rw [hrec];simp_all;done)
     |(refine ⟨i+1,⟨by omega,?_⟩,by omega,by exact sB,by exact sB,by exact mS⟩;rw [hrec];simp_all;done)
   ·
    have e:i=L.length:=by omega
    subst e
    repeat' (first|refine sT ?_|refine sS ?_|refine sM fun _=> ?_|(refine sC ?_ ?_<;>intro hb<;>try omega)|fail)
    (refine rT1 ?_)
    rw [hrec,RE,hlen,RE]
    rfl
 ·
  repeat' (first|refine sT ?_|refine sS ?_|refine sM fun _=> ?_|(refine sC ?_ ?_<;>intro hb<;>try omega)|fail)
  (refine rT1 ?_)
  rw [decide_eq_false]
  intro e
  exact hlen (congrArg List.length e)
theorem Fh (L M:List Ev) (lv mv:Value) (w:World) (hl:Reads w lv L.length (L.flatMap bf)) (hm:Reads w mv M.length (M.flatMap bf)):
  ay Tryz.prog 69 [lv,mv] w (.bool (decide (L=M))):=by
 obtain ⟨Al,cl,rfl,hl1,hl2,hl3⟩:=hl
 obtain ⟨Am,cm,rfl,hm1,hm2,hm3⟩:=hm
 refine aq Tryz.func69 rfl Tryz.ntmps69 rfl ?_
 by_cases hlen:L.length=M.length
 ·
  repeat' (first|refine sT ?_|refine sS ?_|refine sM fun _=> ?_|(refine sC ?_ ?_<;>intro hb<;>try omega)|fail)
  refine ax [0,1,12] rfl (fun i:Nat=> [(13,.int .i64 (i:Int))]) (fun _=> []) (fun i=>i≤L.length∧decide (L=M)=decide (L.drop i=M.drop i)) (fun i=>L.length - i) 0 ⟨by omega,rfl⟩ ?_ ?_ ?_
  ·
   exact sB
  ·
   exact mS
  ·
   rintro i ⟨hi,hrec⟩
   by_cases hlt:i<L.length
   ·
    have hlt2:i<M.length:=by omega
    obtain ⟨gl,ol,rfl,hrl⟩:=hl3 (by omega)
    obtain ⟨gm,om,rfl,hrm⟩:=hm3 (by omega)
    have he1:=hrl.elem gC i hlt
    have he2:=hrm.elem gC i hlt2
    rw [ou hlt hlt2,← Lo] at hrec
    repeat' (first|(apply aS;exact rfl;apply aj;exact rfl;exact rfl;(first|exact hlt|exact hlt2))|(apply aS;exact rfl;apply aB;exact rfl;(first|exact he1|exact he2);exact rfl)|(apply aS;exact rfl;apply Mz;exact rfl;exact rfl)|(apply ak;exact rfl;apply fq;exact rfl;exact rfl;(simp only [maxLen] at*;omega))|refine sT ?_|refine sS ?_|refine sQ ?_|refine sD ?_|refine sM fun _=> ?_|(refine sC ?_ ?_<;>intro hb<;>try omega)|(refine sCQ ?_ ?_<;>intro hb<;>try omega)|fail)
    all_goals first
     |(exfalso;omega)
     |((refine rT1 ?_);rw [hrec];simp_all;done)
     |(refine ⟨i+1,⟨by omega,?_⟩,by omega,by exact sB,by exact sB,by exact mS⟩;rw [hrec];simp_all;done)
   ·
    have e:i=L.length:=by omega
    subst e
    repeat' (first|refine sT ?_|refine sS ?_|refine sM fun _=> ?_|(refine sC ?_ ?_<;>intro hb<;>try omega)|fail)
    (refine rT1 ?_)
    rw [hrec,RE,hlen,RE]
    rfl
 ·
  repeat' (first|refine sT ?_|refine sS ?_|refine sM fun _=> ?_|(refine sC ?_ ?_<;>intro hb<;>try omega)|fail)
  (refine rT1 ?_)
  rw [decide_eq_false]
  intro e
  exact hlen (congrArg List.length e)
theorem Fe (L M:List Rv) (lv mv:Value) (w:World) (hl:Reads w lv L.length (L.flatMap aO)) (hm:Reads w mv M.length (M.flatMap aO)):
  ay Tryz.prog 70 [lv,mv] w (.bool (decide (L=M))):=by
 obtain ⟨Al,cl,rfl,hl1,hl2,hl3⟩:=hl
 obtain ⟨Am,cm,rfl,hm1,hm2,hm3⟩:=hm
 refine aq Tryz.func70 rfl Tryz.ntmps70 rfl ?_
 by_cases hlen:L.length=M.length
 ·
  repeat' (first|refine sT ?_|refine sS ?_|refine sM fun _=> ?_|(refine sC ?_ ?_<;>intro hb<;>try omega)|fail)
  refine ax [0,1,12] rfl (fun i:Nat=> [(13,.int .i64 (i:Int))]) (fun _=> []) (fun i=>i≤L.length∧decide (L=M)=decide (L.drop i=M.drop i)) (fun i=>L.length - i) 0 ⟨by omega,rfl⟩ ?_ ?_ ?_
  ·
   exact sB
  ·
   exact mS
  ·
   rintro i ⟨hi,hrec⟩
   by_cases hlt:i<L.length
   ·
    have hlt2:i<M.length:=by omega
    obtain ⟨gl,ol,rfl,hrl⟩:=hl3 (by omega)
    obtain ⟨gm,om,rfl,hrm⟩:=hm3 (by omega)
    have he1:=hrl.elem cB i hlt
    have he2:=hrm.elem cB i hlt2
    rw [ou hlt hlt2,← Cp] at hrec
    repeat' (first|(apply aS;exact rfl;apply aj;exact rfl;exact rfl;(first|exact hlt|exact hlt2))|(apply aS;exact rfl;apply aB;exact rfl;(first|exact he1|exact he2);exact rfl)|(apply aS;exact rfl;apply FG;exact rfl;exact rfl)|(apply ak;exact rfl;apply fq;exact rfl;exact rfl;(simp only [maxLen] at*;omega))|refine sT ?_|refine sS ?_|refine sQ ?_|refine sD ?_|refine sM fun _=> ?_|(refine sC ?_ ?_<;>intro hb<;>try omega)|(refine sCQ ?_ ?_<;>intro hb<;>try omega)|fail)
    all_goals first
     |(exfalso;omega)
     |((refine rT1 ?_);rw [hrec];simp_all;done)
     |(refine ⟨i+1,⟨by omega,?_⟩,by omega,by exact sB,by exact sB,by exact mS⟩;rw [hrec];simp_all;done)
   ·
    have e:i=L.length:=by omega
    subst e
    repeat' (first|refine sT ?_|refine sS ?_|refine sM fun _=> ?_|(refine sC ?_ ?_<;>intro hb<;>try omega)|fail)
    (refine rT1 ?_)
    rw [hrec,RE,hlen,RE]
    rfl
 ·
  repeat' (first|refine sT ?_|refine sS ?_|refine sM fun _=> ?_|(refine sC ?_ ?_<;>intro hb<;>try omega)|fail)
  (refine rT1 ?_)
  rw [decide_eq_false]
  intro e
  exact hlen (congrArg List.length e)
def CL (r:Rct):Int:=if aD r=false then 0 else (r.c2 - r.c1+1)*(r.r2 - r.r1+1)
theorem Bm (r:Rct) (w:World):ay Tryz.prog 101 [.agg (bK r).toArray] w (.tuple #[.int .i64 (CL r),.int .i64 (dh r)]):=by
 refine aq Tryz.func101 rfl Tryz.ntmps101 rfl ?_
 have h1:=fun w=>fT r w
 unfold CL
 by_cases h:aD r=false
 ·
  rw [if_pos h]
  have hne:dh r≠0:=fun e=>fa (by omega) h
  generalize dh r=e at h1 hne ⊢
  repeat' (first|(apply aa;exact rfl;exact rfl;(intro w hm;exact h1 w))|refine sT ?_|refine sM fun _=> ?_|(refine sC ?_ ?_<;>intro hb<;>try omega)|fail)
  all_goals first|(exfalso;omega)|((refine rT2 ?_);rfl)
 ·
  rw [if_neg h]
  have hz:dh r=0:=by
   rcases Decidable.em (dh r=0) with e|e
   ·
    exact e
   ·
    exact absurd (iw e) h
  rw [hz] at h1 ⊢
  have hb:1≤r.c1∧r.c1≤r.c2∧r.c2≤1024∧1≤r.r1∧r.r1≤r.r2∧r.r2≤1024:=by
   have:aD r=true:=by simpa using h
   simp only [aD,valid,QZ,decide_eq_true_eq] at this
   omega
  have hm: -9223372036854775808≤(r.c2 - r.c1+1)*(r.r2 - r.r1+1)∧(r.c2 - r.c1+1)*(r.r2 - r.r1+1)≤9223372036854775807:=by
   have h1:(0:Int)≤(r.c2 - r.c1+1)*(r.r2 - r.r1+1):=Int.mul_nonneg (by omega) (by omega)
   have h2:(r.c2 - r.c1+1)*(r.r2 - r.r1+1)≤1024*1024:=Int.mul_le_mul (by omega) (by omega) (by omega) (by omega)
   omega
  repeat' (first|(apply aa;exact rfl;exact rfl;(intro w hm;exact h1 w))|(apply ak;exact rfl;apply ux;exact rfl;exact rfl;exact hm)|refine sT ?_|refine sJ ?_|refine sM fun _=> ?_|(refine sC ?_ ?_<;>intro hb<;>try omega)|fail)
  all_goals first|(exfalso;omega)|((refine rT2 ?_);rfl)
def HC (b:Bk) (o:Ox):Bool:=match b.grants[o.idx.toNat]? with|some g=>g.rev|none=>true
theorem FW {b:Bk} {o:Ox} {j:Nat} (hj:o.idx=(j:Int)) (hl:j<b.grants.length):HC b o=b.grants[j].rev:=by
 unfold HC
 rw [hj,SD,QQ hl]
def tst (b:Bk) (o:Ox):Nat→Bool
 |0=>decide (opE o≠0)
 |1=>decide (o.user<0)||decide (b.users≤o.user)
 |2=>(kE o).2 && decide (dh (kE o).1≠0)
 |3=>decide ((o.rd|||o.wr|||o.ow|||o.to) &&& ~~~(cM b.users).1≠0#64)
 |4=>decide (o.kind=9) && (decide (o.idx<0)||decide ((b.grants.length:Int)≤o.idx)||HC b o)
 |5=>HA b o
 |6=>decide (o.kind=3) && decide ((ofP o.input).2.2≠0)
 |7=>(decide (o.kind=5) && decide (1024<CL (kE o).1))||(decide (o.kind=7) && decide (64≤b.rules.length))||(decide (o.kind=8) && decide (64≤b.grants.length))
 |_=>false
def cdE (b:Bk) (o:Ox):Int × Int:=
 if tst b o 0 then (1,0) else if tst b o 1 then (2,0) else if tst b o 2 then (4,0) else if tst b o 3 then (2,0) else if tst b o 4 then (8,0)
 else if tst b o 5 then (5,0) else if tst b o 6 then (6,(ofP o.input).2.1) else if tst b o 7 then (7,0) else (0,0)
section
variable {b:Bk} {x:Bv} {o:Ox} {gb gp go:Nat} {w:World} (ho:Ro w go 0 (bO o)) (hp:Ro w gp 0 [.pointer (some ⟨gb,0,none⟩)]) (hbk:Ro w gb 0 (aW b x))
include ho
theorem LM:ay Tryz.prog 89 [.pointer (some ⟨go,0,none⟩)] w (.bool (tst b o 0)):=by
 refine aq Tryz.func89 rfl Tryz.ntmps89 rfl ?_
 have h1:=fun w=>vo o w
 unfold tst
 generalize opE o=e at h1 ⊢
 repeat' (first|(apply aa;exact rfl;exact rfl;(intro w hm;exact h1 w))|refine sT ?_|refine sS ?_|refine sO ?_|refine sM fun _=> ?_|(refine sC ?_ ?_<;>intro hb<;>try omega)|fail)
 all_goals first|(exfalso;omega)|((refine rT1 ?_);simp;done)|((refine rT1 ?_);rfl)
include hp hbk
theorem LL:ay Tryz.prog 91 [.pointer (some ⟨go,0,none⟩),.pointer (some ⟨gp,0,none⟩)] w (.bool (tst b o 1)):=by
 refine aq Tryz.func91 rfl Tryz.ntmps91 rfl ?_
 unfold tst
 simp only [bO] at ho
 simp only [aW] at hbk
 repeat' (first|refine sT ?_|refine sS ?_|refine sQ ?_|refine sO ?_|refine sOQ ?_|refine sD ?_|refine sM fun _=> ?_|(refine sC ?_ ?_<;>intro hb<;>try omega)|(refine sCQ ?_ ?_<;>intro hb<;>try omega)|fail)
 all_goals first|(exfalso;omega)|((refine rT1 ?_);simp_all;done)|((refine rT1 ?_);simp_all;omega)
omit hbk hp in
theorem LK {g8 g9:Nat} (h8:Ro w g8 0 (bK (kE o).1)) (h9:Ro w g9 0 [.bool (kE o).2]):ay Tryz.prog 92 [.pointer (some ⟨g9,0,none⟩),.pointer (some ⟨g8,0,none⟩)] w (.bool (tst b o 2)):=by
 refine aq Tryz.func92 rfl Tryz.ntmps92 rfl ?_
 unfold tst
 have _hz:=ho
 clear _hz ho
 generalize (kE o).1=t at h8 ⊢
 generalize (kE o).2=c at h9 ⊢
 have h1:=fun w=>fT t w
 generalize dh t=e at h1 ⊢
 cases c
 ·
  repeat' (first|(apply aa;exact rfl;exact rfl;(intro w hm;exact h1 w))|refine sT ?_|refine sS ?_|refine sO ?_|refine sM fun _=> ?_|(refine sC ?_ ?_<;>intro hb<;>try omega)|fail)
  all_goals first|(exfalso;omega)|((refine rT1 ?_);rfl)
 ·
  repeat' (first|(apply aa;exact rfl;exact rfl;(intro w hm;exact h1 w))|refine sT ?_|refine sS ?_|refine sO ?_|refine sM fun _=> ?_|(refine sC ?_ ?_<;>intro hb<;>try omega)|fail)
  all_goals first|(exfalso;omega)|((refine rT1 ?_);simp;done)|((refine rT1 ?_);rfl)
omit hbk hp in
theorem LJ {g6:Nat} (h6:Ro w g6 0 [vS (cM b.users).1]):ay Tryz.prog 94 [.pointer (some ⟨go,0,none⟩),.pointer (some ⟨g6,0,none⟩)] w (.bool (tst b o 3)):=by
 refine aq Tryz.func94 rfl Tryz.ntmps94 rfl ?_
 unfold tst
 generalize (cM b.users).1=a at h6 ⊢
 have ho7:=(Ox.ro ho).2
 simp only [bO] at ho
 repeat' (first|(apply ak;exact rfl;apply o9;exact rfl;exact rfl)|(apply ak;exact rfl;apply dY (b:=a);exact rfl;exact rfl)|(apply ak;exact rfl;apply gI (b:=0#64);exact rfl;exact rfl)|refine sT ?_|refine sS ?_|refine sO ?_|refine sM fun _=> ?_|(refine sC ?_ ?_<;>intro hb<;>try omega)|fail)
 all_goals first|(exfalso;omega)|((refine rT1 ?_);simp;done)|((refine rT1 ?_);rfl)
end
section
variable {b:Bk} {x:Bv} {o:Ox} {gb gp go:Nat} {w:World} (ho:Ro w go 0 (bO o)) (hp:Ro w gp 0 [.pointer (some ⟨gb,0,none⟩)]) (hbk:Ro w gb 0 (aW b x)) (hr:BRd w b x)
include ho hp hbk hr
set_option maxHeartbeats 4000000 in
theorem LI:ay Tryz.prog 95 [.pointer (some ⟨go,0,none⟩),.pointer (some ⟨gp,0,none⟩)] w (.bool (tst b o 4)):=by
 refine aq Tryz.func95 rfl Tryz.ntmps95 rfl ?_
 have ht:tst b o 4=(decide (o.kind=9) && (decide (o.idx<0)||decide ((b.grants.length:Int)≤o.idx)||HC b o)):=rfl
 rw [ht]
 clear ht
 by_cases h1:o.kind=9∧0≤o.idx∧o.idx<(b.grants.length:Int)
 ·
  obtain ⟨h9,hi1,hi2⟩:=h1
  obtain ⟨j,hj⟩: ∃ j:Nat,o.idx=(j:Int):=⟨o.idx.toNat,by omega⟩
  have hjl:j<b.grants.length:=by omega
  rw [FW hj hjl,decide_eq_true h9,decide_eq_false (show ¬ o.idx<0 by omega),decide_eq_false (show ¬ (b.grants.length:Int)≤o.idx by omega),Sy,Bool.false_or,Bool.false_or]
  have hg:=hr.g
  obtain ⟨ae1,ar1,ag1,al1,as1,ce1,cr1,cg1,cl1,cs1⟩:=x
  dsimp only at*
  obtain ⟨Ag,cg2,eg,hg1,hg2,hg3⟩:=hg
  cases eg
  obtain ⟨gg,og,rfl,hrg⟩:=hg3 (by omega)
  obtain ⟨_,_,_,_,he⟩:=Gn.ro (hrg.elem cX j hjl)
  generalize b.grants[j].rev=rv at he ⊢
  obtain ⟨us,E,RU,G,L,M,st⟩:=b
  dsimp only at*
  simp only [aW] at hbk
  simp only [bO] at ho
  clear hr
  repeat' (first|(apply aS;exact rfl;apply aI (o:=0) (off:=0);exact ho;exact rfl;exact rfl)|(apply aS;exact rfl;apply aj (j:=j);exact rfl;(rw [← hj];exact rfl);exact hjl)|(apply aS;exact rfl;apply eU;exact rfl;exact he)|refine sT ?_|refine sS ?_|refine sQ ?_|refine sO ?_|refine sOQ ?_|refine sD ?_|refine sM fun _=> ?_|(refine sC ?_ ?_<;>intro hb<;>try omega)|(refine sCQ ?_ ?_<;>intro hb<;>try omega)|fail)
  all_goals first|(exfalso;omega)|((refine rT1 ?_);rfl)|((refine rT1 ?_);simp_all;done)
 ·
  have he:(decide (o.kind=9) && (decide (o.idx<0)||decide ((b.grants.length:Int)≤o.idx)||HC b o))=decide (o.kind=9):=by
   by_cases h9:o.kind=9
   ·
    by_cases hi:o.idx<0
    ·
     simp [hi]
    ·
     have:(b.grants.length:Int)≤o.idx:=by
      have:=fun h=>h1 ⟨h9,h⟩
      omega
     simp [this]
   ·
    simp [h9]
  rw [he]
  clear he
  obtain ⟨us,E,RU,G,L,M,st⟩:=b
  dsimp only at*
  simp only [aW] at hbk
  simp only [bO] at ho
  clear hr
  repeat' (first|(apply aS;exact rfl;apply aI (o:=0) (off:=0);exact ho;exact rfl;exact rfl)|refine sT ?_|refine sS ?_|refine sQ ?_|refine sO ?_|refine sOQ ?_|refine sD ?_|refine sM fun _=> ?_|(refine sC ?_ ?_<;>intro hb<;>try omega)|(refine sCQ ?_ ?_<;>intro hb<;>try omega)|fail)
  all_goals first|(exfalso;omega)|((refine rT1 ?_);simp_all;done)
omit hp hbk hr in
theorem LH (h: ∀ w' H,Mem w w' H→ay Tryz.prog 97 [.pointer (some ⟨gb,0,none⟩),.agg (bO o).toArray] w' (.bool (HA b o))) (hp:Ro w gp 0 [.pointer (some ⟨gb,0,none⟩)]):ay Tryz.prog 96 [.pointer (some ⟨gp,0,none⟩),.pointer (some ⟨go,0,none⟩)] w (.bool (tst b o 5)):=by
 refine aq Tryz.func96 rfl Tryz.ntmps96 rfl ?_
 have ht:tst b o 5=HA b o:=rfl
 rw [ht]
 generalize HA b o=c at h ⊢
 repeat' (first|(apply aa (f:=97);exact rfl;exact rfl;(intro w' hm;exact h w' _ hm))|refine sT ?_|refine sS ?_|refine sO ?_|refine sM fun _=> ?_|(refine sC ?_ ?_<;>intro hb<;>try omega)|fail)
 all_goals first|(exfalso;omega)|((refine rT1 ?_);rfl)
set_option maxHeartbeats 4000000 in
theorem LF {g8:Nat} (h8:Ro w g8 0 (bK (kE o).1)):ay Tryz.prog 100 [.pointer (some ⟨g8,0,none⟩),.pointer (some ⟨go,0,none⟩),.pointer (some ⟨gp,0,none⟩)] w (.bool (tst b o 7)):=by
 refine aq Tryz.func100 rfl Tryz.ntmps100 rfl ?_
 have ht:tst b o 7=((decide (o.kind=5) && decide (1024<CL (kE o).1))||(decide (o.kind=7) && decide (64≤b.rules.length))||(decide (o.kind=8) && decide (64≤b.grants.length))):=rfl
 rw [ht]
 clear ht
 have hA:=fun w=>Bm (kE o).1 w
 generalize CL (kE o).1=ar at hA ⊢
 generalize (kE o).1=t at h8 hA
 obtain ⟨us,E,RU,G,L,M,st⟩:=b
 dsimp only at*
 simp only [aW] at hbk
 simp only [bO] at ho
 clear hr
 repeat' (first|(apply ak;exact rfl;apply aI (o:=0) (off:=0);exact ho;exact rfl;exact rfl)|(apply aa;exact rfl;exact rfl;(intro w hm;exact hA w))|refine sT ?_|refine sS ?_|refine sQ ?_|refine sO ?_|refine sOQ ?_|refine sD ?_|refine sM fun _=> ?_|(refine sC ?_ ?_<;>intro hb<;>try omega)|(refine sCQ ?_ ?_<;>intro hb<;>try omega)|fail)
 all_goals first|(exfalso;omega)|((refine rT1 ?_);simp_all;done)|((refine rT1 ?_);simp_all;omega)
end
section
variable {b:Bk} {o:Ox} {go gat:Nat} {w0:World} {H:List Blk}
set_option maxHeartbeats 4000000 in
theorem LG (hW:Words w0) (hgo:In (.box go 37 (bO o)) H):FnIn Tryz.prog 98 [.pointer (some ⟨go,0,none⟩),.pointer (some ⟨gat,0,none⟩)] w0 (.box gat 3 [.int .i64 0]::H) fun v H' =>v= .bool (tst b o 6)∧H' = .box gat 3 [.int .i64 (if tst b o 6 then (ofP o.input).2.1 else 0)]::H:=by
 refine dD Tryz.func98 rfl Tryz.ntmps98 rfl ?_
 have ht:tst b o 6=(decide (o.kind=3) && decide ((ofP o.input).2.2≠0)):=rfl
 rw [ht]
 clear ht
 have hO:=fun (w' :World) (H' :List Blk) (hm:Mem w0 w' H')=>L8 o.input w' (hW.next hm)
 generalize ofP o.input=r at hO ⊢
 obtain ⟨⟨fm,v,t⟩,at_,e⟩:=r
 simp only [ofV,zw] at hO
 dsimp only at*
 by_cases h3:o.kind=3
 ·
  rw [decide_eq_true h3,Sy]
  by_cases he:e≠0
  ·
   rw [decide_eq_true he,if_pos rfl]
   repeat' (first|(apply ak;exact rfl;apply jI;exact rfl;exact .tl hgo;exact rfl)|(apply aA (f:=99);exact rfl;exact rfl;(intro w' hm;exact hO w' _ hm);rintro _ _ ⟨A,cap,rfl,rfl⟩)|refine sT ?_|refine sS ?_|refine sM fun _=> ?_|(refine sC ?_ ?_<;>intro hb<;>try omega)|fail)
   all_goals first|(exfalso;omega)|(exact cH eIO rfl rfl (H' := .box gat 3 [.int .i64 at_]::H) mS ⟨congrArg Value.bool (by first|rfl|(simp [he];done)),rfl⟩)
  ·
   rw [decide_eq_false he,if_neg (by decide)]
   repeat' (first|(apply ak;exact rfl;apply jI;exact rfl;exact .tl hgo;exact rfl)|(apply aA (f:=99);exact rfl;exact rfl;(intro w' hm;exact hO w' _ hm);rintro _ _ ⟨A,cap,rfl,rfl⟩)|refine sT ?_|refine sS ?_|refine sM fun _=> ?_|(refine sC ?_ ?_<;>intro hb<;>try omega)|fail)
   all_goals first|(exfalso;omega)|(exact cH eIO rfl rfl (H' := .box gat 3 [.int .i64 0]::H) mS ⟨congrArg Value.bool (by first|rfl|(simp [he];done)),rfl⟩)
 ·
  rw [decide_eq_false h3,Bool.false_and,if_neg (by decide)]
  repeat' (first|(apply ak;exact rfl;apply jI;exact rfl;exact .tl hgo;exact rfl)|refine sT ?_|refine sS ?_|refine sM fun _=> ?_|(refine sC ?_ ?_<;>intro hb<;>try omega)|fail)
  all_goals first|(exfalso;omega)|(exact cH eIO rfl rfl (H' := .box gat 3 [.int .i64 0]::H) mS ⟨rfl,rfl⟩)
end
structure Bo where
 e:Option Nat
 r:Option Nat
 g:Option Nat
 l:Option Nat
 s:Option Nat
 ce:Nat
 cr:Nat
 cg:Nat
 cl:Nat
 cs:Nat
def adr (A:Option Nat):Option Addr:=A.map fun g=>⟨g,0,none⟩
def Bo.v (a:Bo):Bv:=⟨adr a.e,adr a.r,adr a.g,adr a.l,adr a.s,a.ce,a.cr,a.cg,a.cl,a.cs⟩
def aN (b:Bk) (a:Bo):List Blk:= [.own a.e 52 3 b.ents.length a.ce (b.ents.flatMap aJ),.own a.r 54 7 b.rules.length a.cr (b.rules.flatMap bu),.own a.g 56 8 b.grants.length a.cg (b.grants.flatMap bn),.own a.l 58 9 b.log.length a.cl (b.log.flatMap bf),.own a.s 62 11 b.rels.length a.cs (b.rels.flatMap aO)]
theorem BRd.of_rows {w0 w:World} {H:List Blk} {b:Bk} {a:Bo} (hm:Mem w0 w H) (h1:In (.own a.e 52 3 b.ents.length a.ce (b.ents.flatMap aJ)) H) (h2:In (.own a.r 54 7 b.rules.length a.cr (b.rules.flatMap bu)) H) (h3:In (.own a.g 56 8 b.grants.length a.cg (b.grants.flatMap bn)) H) (h4:In (.own a.l 58 9 b.log.length a.cl (b.log.flatMap bf)) H) (h5:In (.own a.s 62 11 b.rels.length a.cs (b.rels.flatMap aO)) H):BRd w b a.v:=
 ⟨Reads.of_own (A:=a.e) hm h1,Reads.of_own (A:=a.r) hm h2,Reads.of_own (A:=a.g) hm h3,Reads.of_own (A:=a.l) hm h4,Reads.of_own (A:=a.s) hm h5⟩
structure Small (b:Bk):Prop where
 e:b.ents.length≤1000000
 r:b.rules.length≤1000000
 g:b.grants.length≤1000000
 l:b.log.length≤1000000
 s:b.rels.length≤100000000
set_option maxHeartbeats 4000000 in
theorem ym (b:Bk) (x:Bv) (w:World) (h:BRd w b x) (hs:Small b):aK Tryz.prog 20 [.agg (aW b x).toArray] w fun v H=> ∃ a:Bo,v= .agg (aW b a.v).toArray∧H=aN b a:=by
 refine aq Tryz.func20 rfl Tryz.ntmps20 rfl ?_
 have h1:=fun (w' :World) (H:List Blk) (hm:Mem w w' H)=>Fv b.ents _ w' (h.e.of_w0 hm) hs.e
 have h2:=fun (w' :World) (H:List Blk) (hm:Mem w w' H)=>Fs b.rules _ w' (h.r.of_w0 hm) hs.r
 have h3:=fun (w' :World) (H:List Blk) (hm:Mem w w' H)=>Ft b.grants _ w' (h.g.of_w0 hm) hs.g
 have h4:=fun (w' :World) (H:List Blk) (hm:Mem w w' H)=>Fu b.log _ w' (h.l.of_w0 hm) hs.l
 have h5:=fun (w' :World) (H:List Blk) (hm:Mem w w' H)=>Fm b.rels _ w' (h.s.of_w0 hm) hs.s
 repeat' (first|(apply aA (f:=74);exact rfl;exact rfl;(intro w' hm;exact h1 w' _ hm);rintro _ _ ⟨A1,c1,rfl,rfl⟩)|(apply aA (f:=75);exact rfl;exact rfl;(intro w' hm;exact h2 w' _ hm);rintro _ _ ⟨A2,c2,rfl,rfl⟩)|(apply aA (f:=76);exact rfl;exact rfl;(intro w' hm;exact h3 w' _ hm);rintro _ _ ⟨A3,c3,rfl,rfl⟩)|(apply aA (f:=77);exact rfl;exact rfl;(intro w' hm;exact h4 w' _ hm);rintro _ _ ⟨A4,c4,rfl,rfl⟩)|(apply aA (f:=78);exact rfl;exact rfl;(intro w' hm;exact h5 w' _ hm);rintro _ _ ⟨A5,c5,rfl,rfl⟩)|refine sT ?_|refine sS ?_|refine sM fun _=> ?_|(refine sC ?_ ?_<;>intro hb<;>try omega)|fail)
 exact wQ (.inl rfl) rfl rfl pK rfl (H' :=aN b ⟨A1,A2,A3,A4,A5,c1,c2,c3,c4,c5⟩) (by unfold aN;exact mS) ⟨⟨A1,A2,A3,A4,A5,c1,c2,c3,c4,c5⟩,rfl,rfl⟩
def Lt (a b:Bk):Bool:=decide (a.users=b.users) && decide (a.step=b.step) && decide (a.ents=b.ents) && decide (a.rules=b.rules) && decide (a.grants=b.grants) && decide (a.log=b.log) && decide (a.rels=b.rels)
theorem Ls {a b:Bk}:Lt a b=true↔a=b:=by
 obtain ⟨a1,a2,a3,a4,a5,a6,a7⟩:=a
 obtain ⟨b1,b2,b3,b4,b5,b6,b7⟩:=b
 simp only [Lt,QZ,decide_eq_true_eq,Bk.mk.injEq]
 exact ⟨fun ⟨⟨⟨⟨⟨⟨h1,h2⟩,h3⟩,h4⟩,h5⟩,h6⟩,h7⟩=>⟨h1,h3,h4,h5,h6,h7,h2⟩,fun ⟨h1,h3,h4,h5,h6,h7,h2⟩=>⟨⟨⟨⟨⟨⟨h1,h2⟩,h3⟩,h4⟩,h5⟩,h6⟩,h7⟩⟩
set_option maxHeartbeats 8000000 in
theorem EZ (a b:Bk) (x y:Bv) (w:World) (h:BRd w a x) (k:BRd w b y):ay Tryz.prog 17 [.agg (aW a x).toArray,.agg (aW b y).toArray] w (.bool (Lt a b)):=by
 refine aq Tryz.func17 rfl Tryz.ntmps17 rfl ?_
 have h1:=fun (w' :World) (H:List Blk) (hm:Mem w w' H)=>Fj a.ents b.ents _ _ w' (h.e.of_w0 hm) (k.e.of_w0 hm)
 have h2:=fun (w' :World) (H:List Blk) (hm:Mem w w' H)=>Ff a.rules b.rules _ _ w' (h.r.of_w0 hm) (k.r.of_w0 hm)
 have h3:=fun (w' :World) (H:List Blk) (hm:Mem w w' H)=>Fg a.grants b.grants _ _ w' (h.g.of_w0 hm) (k.g.of_w0 hm)
 have h4:=fun (w' :World) (H:List Blk) (hm:Mem w w' H)=>Fh a.log b.log _ _ w' (h.l.of_w0 hm) (k.l.of_w0 hm)
 have h5:=fun (w' :World) (H:List Blk) (hm:Mem w w' H)=>Fe a.rels b.rels _ _ w' (h.s.of_w0 hm) (k.s.of_w0 hm)
 unfold Lt
 generalize decide (a.ents=b.ents)=c1 at h1 ⊢
 generalize decide (a.rules=b.rules)=c2 at h2 ⊢
 generalize decide (a.grants=b.grants)=c3 at h3 ⊢
 generalize decide (a.log=b.log)=c4 at h4 ⊢
 generalize decide (a.rels=b.rels)=c5 at h5 ⊢
 repeat' (first|(apply aa (f:=66);exact rfl;exact rfl;(intro w' hm;exact h1 w' _ hm))|(apply aa (f:=67);exact rfl;exact rfl;(intro w' hm;exact h2 w' _ hm))|(apply aa (f:=68);exact rfl;exact rfl;(intro w' hm;exact h3 w' _ hm))|(apply aa (f:=69);exact rfl;exact rfl;(intro w' hm;exact h4 w' _ hm))|(apply aa (f:=70);exact rfl;exact rfl;(intro w' hm;exact h5 w' _ hm))|refine sT ?_|refine sS ?_|refine sM fun _=> ?_|(refine sC ?_ ?_<;>intro hb<;>try omega)|fail)
 all_goals first
  |(exfalso;omega)
  |((refine rT1 ?_);simp_all;done)
theorem IE (b:Bk):Lt b b=true:=Ls.2 rfl
theorem EY (b:Bk) {x y:Bv} {w:World} (h:BRd w b x) (k:BRd w b y):ay Tryz.prog 17 [.agg (aW b x).toArray,.agg (aW b y).toArray] w (.bool true):=by
 have:=EZ b b x y w h k
 rwa [IE] at this
def ND:Bk:=⟨3,xT,bkR,[],[],[],0⟩
theorem zL (w:World):aK Tryz.prog 57 [] w fun v H=> ∃ a:Bo,v= .agg (aW ND a.v).toArray∧H=aN ND a:=by
 refine aq Tryz.func57 rfl Tryz.ntmps57 rfl ?_
 refine aH 56 8 ?_
 refine aH 58 9 ?_
 refine aH 62 11 ?_
 repeat' (first|(apply aA (f:=116);exact rfl;exact rfl;(intro w' hm;exact Jg w');rintro _ _ ⟨ge,gr,gn,rfl,rfl⟩)|refine sT ?_|refine sS ?_|refine sM fun _=> ?_|(refine sC ?_ ?_<;>intro hb<;>try omega)|fail)
 exact wQ (.inl rfl) rfl rfl pK rfl (H' :=aN ND ⟨some ge,some gr,none,none,none,6,2,0,0,0⟩) (by unfold aN;exact mS) ⟨⟨some ge,some gr,none,none,none,6,2,0,0,0⟩,rfl,rfl⟩
def rp (b:Bk):Bool:=
 decide (b.ents.length≤40) && (decide (b.rules.length≤10)||(decide ((dX b.users b.rules).2≠0) && decide (b.rules.length<70))) && (decide (b.grants.length≤10)||(decide (64<b.grants.length) && decide (b.grants.length<70))) && decide (b.log.length≤60) && decide (b.rels.length≤60)
theorem xu {b:Bk} (h:rp b=true):b.ents.length≤40∧b.rules.length<70∧b.grants.length<70∧b.log.length≤60∧b.rels.length≤60:=by
 simp only [rp,QZ,SH,decide_eq_true_eq] at h
 omega
set_option maxHeartbeats 8000000 in
theorem E8 (b:Bk) (x:Bv) (w:World) (h:BRd w b x):ay Tryz.prog 9 [.agg (aW b x).toArray] w (.bool (rp b)):=by
 refine aq Tryz.func9 rfl Tryz.ntmps9 rfl ?_
 have h1:=fun (w' :World) (H:List Blk) (hm:Mem w w' H)=>oQ b.users b.rules _ w' (h.r.of_w0 hm)
 unfold rp
 generalize dX b.users b.rules=ae at h1 ⊢
 obtain ⟨us,E,RU,G,L,M,st⟩:=b
 obtain ⟨ae1,ar1,ag1,al1,as1,ce1,cr1,cg1,cl1,cs1⟩:=x
 dsimp only at*
 clear h
 simp only [aW]
 generalize E.length=nE
 generalize RU.length=nR at h1 ⊢
 generalize G.length=nG
 generalize L.length=nL
 generalize M.length=nM
 repeat' (first|(apply aa (f:=34);exact rfl;exact rfl;(intro w' hm;exact h1 w' _ hm))|refine sT ?_|refine sS ?_|refine sM fun _=> ?_|(refine sC ?_ ?_<;>intro hb<;>try omega)|fail)
 all_goals first
  |(exfalso;omega)
  |((refine rT1 ?_);refine congrArg Value.bool (RP.2 ?_);simp only [QZ,SH,decide_eq_true_eq,RT,true_iff,false_iff];omega)
def Qc:Nat→Int
 |0=>1|1=>2|2=>4|3=>2|4=>8|5=>5|6=>6|_=>7
theorem PJ {b:Bk} {o:Ox} {i:Nat} (hi:i<8) (h:tst b o i=true) (hno: ∀ j,j<i→tst b o j=false):cdE b o=(Qc i,if i=6 then (ofP o.input).2.1 else 0):=by
 rcases (by omega:i=0∨i=1∨i=2∨i=3∨i=4∨i=5∨i=6∨i=7) with rfl|rfl|rfl|rfl|rfl|rfl|rfl|rfl
 ·
  unfold cdE;rw [h];rfl
 ·
  unfold cdE;rw [hno 0 (by omega),h];rfl
 ·
  unfold cdE;rw [hno 0 (by omega),hno 1 (by omega),h];rfl
 ·
  unfold cdE;rw [hno 0 (by omega),hno 1 (by omega),hno 2 (by omega),h];rfl
 ·
  unfold cdE;rw [hno 0 (by omega),hno 1 (by omega),hno 2 (by omega),hno 3 (by omega),h];rfl
 ·
  unfold cdE;rw [hno 0 (by omega),hno 1 (by omega),hno 2 (by omega),hno 3 (by omega),hno 4 (by omega),h];rfl
 ·
  unfold cdE;rw [hno 0 (by omega),hno 1 (by omega),hno 2 (by omega),hno 3 (by omega),hno 4 (by omega),hno 5 (by omega),h];rfl
 ·
  unfold cdE;rw [hno 0 (by omega),hno 1 (by omega),hno 2 (by omega),hno 3 (by omega),hno 4 (by omega),hno 5 (by omega),hno 6 (by omega),h];rfl
theorem PI {b:Bk} {o:Ox} (hno: ∀ j,j<8→tst b o j=false):cdE b o=(0,0):=by
 unfold cdE
 rw [hno 0 (by omega),hno 1 (by omega),hno 2 (by omega),hno 3 (by omega),hno 4 (by omega),hno 5 (by omega),hno 6 (by omega),hno 7 (by omega)]
 rfl
theorem O2 {b:Bk} {o:Ox} (h:tst b o 4=false) (h9:o.kind=9):0≤o.idx∧o.idx<(b.grants.length:Int):=by
 have ht:tst b o 4=(decide (o.kind=9) && (decide (o.idx<0)||decide ((b.grants.length:Int)≤o.idx)||HC b o)):=rfl
 rw [ht,decide_eq_true h9,Sy,S9,S9,decide_eq_false_iff_not,decide_eq_false_iff_not] at h
 omega
theorem IR {b:Bk} {o:Ox} {go gat:Nat} {w0:World} {H T:List Blk} (hW:Words w0) (hs:Sel (.box gat 3 [.int .i64 0]) H T) (hgo:In (.box go 37 (bO o)) T):
  FnIn Tryz.prog 98 [.pointer (some ⟨go,0,none⟩),.pointer (some ⟨gat,0,none⟩)] w0 H fun v H' =>v= .bool (tst b o 6)∧H' = .box gat 3 [.int .i64 (if tst b o 6 then (ofP o.input).2.1 else 0)]::T:=
 FnIn.msub (LG hW hgo) (MSub.pick hs (MSub.refl _))
set_option maxHeartbeats 16000000 in
theorem NN (b:Bk) (x:Bv) (o:Ox) (gb:Nat) (w:World) (hbk:Ro w gb 0 (aW b x)) (hr:BRd w b x) (hW:Words w):ay Tryz.prog 40 [.pointer (some ⟨gb,0,none⟩),.agg (bO o).toArray] w (.tuple #[.int .u8 (cdE b o).1,.int .i64 (cdE b o).2]):=by
 refine aq Tryz.func40 rfl Tryz.ntmps40 rfl ?_
 have hA:=fun w=>zM b.users w
 have hT:=fun w=>yt o w
 have hbk' :=hbk
 simp only [aW] at hbk
 repeat' (first|(apply ak;exact rfl;apply dx;exact rfl;exact hbk;exact rfl)|(apply ak;exact rfl;apply aI (o:=0) (off:=0);exact hbk;exact rfl;exact rfl)|(apply aa;exact rfl;exact rfl;(intro w hm;exact hA w))|(apply aa;exact rfl;exact rfl;(intro w hm;exact hT w))|refine sT ?_|refine sS ?_|refine sM fun _=> ?_|(refine sC ?_ ?_<;>intro hb<;>try omega)|fail)
 rename_i g2 g3 g6 g8 g9 g10 gs
 have hR:=fun (h5:tst b o 4=false) (w' :World) (H:List Blk) (hm:Mem w w' H)=>uX b x o gb w' (hbk'.next hm) (hr.of_w0 hm) (O2 h5)
 refine ax [2,3,6,8,9,10,42,43] rfl (fun i:Nat=> [(44,.int .i64 (i:Int))]) (fun _=> [.own (some gs) 123 2 8 8 [.int .u8 1,.func (.func 89) #[] #[.pointer (some ⟨g3,0,none⟩)],.int .u8 2,.func (.func 91) #[] #[.pointer (some ⟨g3,0,none⟩),.pointer (some ⟨g2,0,none⟩)],.int .u8 4,.func (.func 92) #[] #[.pointer (some ⟨g9,0,none⟩),.pointer (some ⟨g8,0,none⟩)],.int .u8 2,.func (.func 94) #[] #[.pointer (some ⟨g3,0,none⟩),.pointer (some ⟨g6,0,none⟩)],.int .u8 8,.func (.func 95) #[] #[.pointer (some ⟨g3,0,none⟩),.pointer (some ⟨g2,0,none⟩)],.int .u8 5,.func (.func 96) #[] #[.pointer (some ⟨g2,0,none⟩),.pointer (some ⟨g3,0,none⟩)],.int .u8 6,.func (.func 98) #[] #[.pointer (some ⟨g3,0,none⟩),.pointer (some ⟨g10,0,none⟩)],.int .u8 7,.func (.func 100) #[] #[.pointer (some ⟨g8,0,none⟩),.pointer (some ⟨g3,0,none⟩),.pointer (some ⟨g2,0,none⟩)]],.box g10 3 [.int .i64 0],.box g9 4 [.bool (kE o).2],.box g8 32 (bK (kE o).1),.box g6 33 [vS (cM b.users).1],.box g3 37 (bO o),.box g2 88 [.pointer (some ⟨gb,0,none⟩)]]) (fun i=>i≤8∧ ∀ j,j<i→tst b o j=false) (fun i=>8 - i) 0 ⟨by omega,fun j h=>by omega⟩ sB mS ?_
 rintro i ⟨hi,hno⟩
 by_cases hlt:i<8
 ·
  obtain ⟨c,hc⟩: ∃ c,tst b o i=c:=⟨_,rfl⟩
  have hcd:c=true→cdE b o=(Qc i,if i=6 then (ofP o.input).2.1 else 0):=fun e=>PJ hlt (hc.trans e) hno
  have hnx:c=false→ ∀ j,j<i+1→tst b o j=false:=fun e j hj=>by
   rcases (by omega:j<i∨j=i) with h|rfl
   ·
    exact hno j h
   ·
    exact hc.trans e
  rcases (by omega:i=0∨i=1∨i=2∨i=3∨i=4∨i=5∨i=6∨i=7) with rfl|rfl|rfl|rfl|rfl|rfl|rfl|rfl
  ·
   cases c
   all_goals
    repeat' (first|(apply ak;exact rfl;apply aj (j:=0);exact rfl;exact rfl;omega)|(apply ak;exact rfl;apply aM;exact rfl;exact pK;exact rfl;exact rfl)|(apply bM (f:=89);exact rfl;exact rfl;infer_instance;exact rfl;(intro w' hm;exact hc ▸ LM (b:=b) (go:=g3) (Ro.of_box hm pK)))|refine sT ?_|refine sS ?_|refine sQ ?_|refine sN ?_|refine sNQ ?_|refine sD ?_|refine sM fun _=> ?_|(refine sC ?_ ?_<;>intro hb<;>try omega)|(refine sCQ ?_ ?_<;>intro hb<;>try omega)|fail)
   all_goals first
    |(exfalso;omega)
    |(refine ⟨1,⟨by omega,hnx rfl⟩,by omega,by exact sB,by exact sB,by exact mS⟩;done)
    |((refine rT2 ?_);rw [hcd rfl];rfl)
  ·
   cases c
   all_goals
    repeat' (first|(apply ak;exact rfl;apply aj (j:=1);exact rfl;exact rfl;omega)|(apply ak;exact rfl;apply aM;exact rfl;exact pK;exact rfl;exact rfl)|(apply bM (f:=91);exact rfl;exact rfl;infer_instance;exact rfl;(intro w' hm;exact hc ▸ LL (go:=g3) (gp:=g2) (Ro.of_box hm pK) (Ro.of_box hm pK) (hbk'.next hm)))|refine sT ?_|refine sS ?_|refine sQ ?_|refine sN ?_|refine sNQ ?_|refine sD ?_|refine sM fun _=> ?_|(refine sC ?_ ?_<;>intro hb<;>try omega)|(refine sCQ ?_ ?_<;>intro hb<;>try omega)|fail)
   all_goals first
    |(exfalso;omega)
    |(refine ⟨2,⟨by omega,hnx rfl⟩,by omega,by exact sB,by exact sB,by exact mS⟩;done)
    |((refine rT2 ?_);rw [hcd rfl];rfl)
  ·
   cases c
   all_goals
    repeat' (first|(apply ak;exact rfl;apply aj (j:=2);exact rfl;exact rfl;omega)|(apply ak;exact rfl;apply aM;exact rfl;exact pK;exact rfl;exact rfl)|(apply bM (f:=92);exact rfl;exact rfl;infer_instance;exact rfl;(intro w' hm;exact hc ▸ LK (b:=b) (go:=g3) (g8:=g8) (g9:=g9) (Ro.of_box hm pK) (Ro.of_box hm pK) (Ro.of_box hm pK)))|refine sT ?_|refine sS ?_|refine sQ ?_|refine sN ?_|refine sNQ ?_|refine sD ?_|refine sM fun _=> ?_|(refine sC ?_ ?_<;>intro hb<;>try omega)|(refine sCQ ?_ ?_<;>intro hb<;>try omega)|fail)
   all_goals first
    |(exfalso;omega)
    |(refine ⟨3,⟨by omega,hnx rfl⟩,by omega,by exact sB,by exact sB,by exact mS⟩;done)
    |((refine rT2 ?_);rw [hcd rfl];rfl)
  ·
   cases c
   all_goals
    repeat' (first|(apply ak;exact rfl;apply aj (j:=3);exact rfl;exact rfl;omega)|(apply ak;exact rfl;apply aM;exact rfl;exact pK;exact rfl;exact rfl)|(apply bM (f:=94);exact rfl;exact rfl;infer_instance;exact rfl;(intro w' hm;exact hc ▸ LJ (b:=b) (go:=g3) (g6:=g6) (Ro.of_box hm pK) (Ro.of_box hm pK)))|refine sT ?_|refine sS ?_|refine sQ ?_|refine sN ?_|refine sNQ ?_|refine sD ?_|refine sM fun _=> ?_|(refine sC ?_ ?_<;>intro hb<;>try omega)|(refine sCQ ?_ ?_<;>intro hb<;>try omega)|fail)
   all_goals first
    |(exfalso;omega)
    |(refine ⟨4,⟨by omega,hnx rfl⟩,by omega,by exact sB,by exact sB,by exact mS⟩;done)
    |((refine rT2 ?_);rw [hcd rfl];rfl)
  ·
   cases c
   all_goals
    repeat' (first|(apply ak;exact rfl;apply aj (j:=4);exact rfl;exact rfl;omega)|(apply ak;exact rfl;apply aM;exact rfl;exact pK;exact rfl;exact rfl)|(apply bM (f:=95);exact rfl;exact rfl;infer_instance;exact rfl;(intro w' hm;exact hc ▸ LI (go:=g3) (gp:=g2) (Ro.of_box hm pK) (Ro.of_box hm pK) (hbk'.next hm) (hr.of_w0 hm)))|refine sT ?_|refine sS ?_|refine sQ ?_|refine sN ?_|refine sNQ ?_|refine sD ?_|refine sM fun _=> ?_|(refine sC ?_ ?_<;>intro hb<;>try omega)|(refine sCQ ?_ ?_<;>intro hb<;>try omega)|fail)
   all_goals first
    |(exfalso;omega)
    |(refine ⟨5,⟨by omega,hnx rfl⟩,by omega,by exact sB,by exact sB,by exact mS⟩;done)
    |((refine rT2 ?_);rw [hcd rfl];rfl)
  ·
   cases c
   all_goals
    repeat' (first|(apply ak;exact rfl;apply aj (j:=5);exact rfl;exact rfl;omega)|(apply ak;exact rfl;apply aM;exact rfl;exact pK;exact rfl;exact rfl)|(apply bM (f:=96);exact rfl;exact rfl;infer_instance;exact rfl;(intro w' hm;exact hc ▸ LH (b:=b) (gb:=gb) (gp:=g2) (go:=g3) (Ro.of_box hm pK) (fun w2 H2 hm2=>uX b x o gb w2 ((hbk'.next hm).next hm2) ((hr.of_w0 hm).of_w0 hm2) (O2 (hno 4 (by omega)))) (Ro.of_box hm pK)))|refine sT ?_|refine sS ?_|refine sQ ?_|refine sN ?_|refine sNQ ?_|refine sD ?_|refine sM fun _=> ?_|(refine sC ?_ ?_<;>intro hb<;>try omega)|(refine sCQ ?_ ?_<;>intro hb<;>try omega)|fail)
   all_goals first
    |(exfalso;omega)
    |(refine ⟨6,⟨by omega,hnx rfl⟩,by omega,by exact sB,by exact sB,by exact mS⟩;done)
    |((refine rT2 ?_);rw [hcd rfl];rfl)
  ·
   cases c
   all_goals
    repeat' (first|(apply ak;exact rfl;apply aj (j:=6);exact rfl;exact rfl;omega)|(apply ak;exact rfl;apply aM;exact rfl;exact pK;exact rfl;exact rfl)|(apply kQ (f:=98);exact rfl;exact rfl;infer_instance;exact rfl;exact hc ▸ IR (b:=b) (o:=o) (go:=g3) (gat:=g10) hW pK pK;rintro _ _ ⟨rfl,rfl⟩)|refine sT ?_|refine sS ?_|refine sQ ?_|refine sN ?_|refine sNQ ?_|refine sD ?_|refine sM fun _=> ?_|(refine sC ?_ ?_<;>intro hb<;>try omega)|(refine sCQ ?_ ?_<;>intro hb<;>try omega)|fail)
   all_goals first
    |(exfalso;omega)
    |(refine ⟨7,⟨by omega,hnx rfl⟩,by omega,by exact sB,by exact sB,by exact mS⟩;done)
    |((refine rT2 ?_);rw [hcd rfl];rfl)
  ·
   cases c
   all_goals
    repeat' (first|(apply ak;exact rfl;apply aj (j:=7);exact rfl;exact rfl;omega)|(apply ak;exact rfl;apply aM;exact rfl;exact pK;exact rfl;exact rfl)|(apply bM (f:=100);exact rfl;exact rfl;infer_instance;exact rfl;(intro w' hm;exact hc ▸ LF (go:=g3) (gp:=g2) (g8:=g8) (Ro.of_box hm pK) (Ro.of_box hm pK) (hbk'.next hm) (hr.of_w0 hm) (Ro.of_box hm pK)))|refine sT ?_|refine sS ?_|refine sQ ?_|refine sN ?_|refine sNQ ?_|refine sD ?_|refine sM fun _=> ?_|(refine sC ?_ ?_<;>intro hb<;>try omega)|(refine sCQ ?_ ?_<;>intro hb<;>try omega)|fail)
   all_goals first
    |(exfalso;omega)
    |(refine ⟨8,⟨by omega,hnx rfl⟩,by omega,by exact sB,by exact sB,by exact mS⟩;done)
    |((refine rT2 ?_);rw [hcd rfl];rfl)
 ·
  have e:i=8:=by omega
  subst e
  rw [PI hno]
  repeat' (first|refine sT ?_|refine sS ?_|refine sM fun _=> ?_|(refine sC ?_ ?_<;>intro hb<;>try omega)|fail)
  all_goals first|(exfalso;omega)|((refine rT2 ?_);rfl)
end Go.SL
