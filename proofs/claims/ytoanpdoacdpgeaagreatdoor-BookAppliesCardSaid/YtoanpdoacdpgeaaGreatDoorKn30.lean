/-
  Lemmas and walks, put together: Rw.
-/
import Derived.Test.YtoanpdoacdpgeaaGreatDoorKn23
import Derived.Test.YtoanpdoacdpgeaaGreatDoorKn27
set_option linter.unusedSimpArgs false
set_option linter.unusedVariables false
set_option maxRecDepth 20000
namespace Go.SL
open Go
theorem pZ: ∀ (l:List Int) {v:Int},(∀ c∈l,48≤c)→0≤v→0≤bu l v
 | [],_,_,h=>h
 |c::r,v,hl,h=>by
  rw [bu]
  refine pZ r (fun d hd=>hl d (Nv _ hd)) ?_
  have:=hl c Nj
  omega
theorem kg {p:Int→Bool}: ∀ {l:List Int} {c:Int},c∈l.take (aF p l)→p c=true
 | [],_,h=>by cases h
 |d::r,c,h=>by
  rw [aF] at h
  split at h
  ·
   rename_i hd
   rw [Oe] at h
   rcases NA.1 h with rfl|h
   ·
    exact hd
   ·
    exact kg h
  ·
   cases h
theorem zD {l:List Int} {v:Int} {n:Nat} (h:jG l=some (v,n)):0≤v:=by
 unfold jG at h
 dsimp only at h
 split at h
 ·
  cases h
 ·
  split at h
  ·
   cases h
  ·
   cases h
   refine pZ _ (fun c hc=> ?_) (OH _)
   rw [NJ,NJ] at hc
   rcases hc with (hc|hc)|hc
   ·
    have:=kg hc
    rw [d9] at this
    exact this.1
   ·
    have hp:bS (l.drop (aF aH l))=0∨ ∃ r,l.drop (aF aH l)=46::r∧bS (l.drop (aF aH l))=aF aH r:=by
     by_cases h0:bS (l.drop (aF aH l))=0
     ·
      exact .inl h0
     ·
      exact .inr (lQ h0)
    rcases hp with hp|⟨r,hr,hp⟩
    ·
     rw [hp] at hc;cases hc
    ·
     have hr' :l.drop (aF aH l+1)=r:=by rw [← Pu,hr];rfl
     rw [hr',hp] at hc
     have:=kg hc
     rw [d9] at this
     exact this.1
   ·
    rw [List.eq_of_mem_replicate hc];decide
theorem wn (l:List Int): ∀ (ns:List (List Int)) {i c:Int} {n:Nat},0≤i→ju l ns i=some (c,n)→0≤c
 | [],_,_,_,_,h=>by cases h
 |s::r,i,c,n,hi,h=>by
  rw [ju] at h
  split at h
  ·
   cases h;exact hi
  ·
   exact wn l r (by omega) h
theorem DJ (l:List Int): ∀ (ns:List (List Int × Int)) {c:Int} {n:Nat},opL l ns=some (c,n)→ ∃ s∈ns,s.2=c
 | [],_,_,h=>by cases h
 |(s,k)::r,c,n,h=>by
  rw [opL] at h
  split at h
  ·
   cases h;exact ⟨_,Nj,rfl⟩
  ·
   obtain ⟨x,hx,he⟩:=DJ l r h
   exact ⟨x,Nv _ hx,he⟩
theorem EJ {l:List Int} {t:Tk} {n:Nat} (h:iN l=some (t,n)):0≤t.num:=by
 unfold iN at h
 split at h
 ·
  rename_i x hx
  cases h
  unfold jL at hx
  obtain ⟨⟨c,m⟩,hy,hz⟩:=Od.1 hx
  cases hz
  exact wn l _ (by decide) hy
 ·
  unfold gK at h
  split at h
  ·
   rename_i hx
   cases h
   obtain ⟨s,hs,he⟩:=DJ l _ hx
   have: ∀ s∈eD,0≤s.2:=by decide
   exact he ▸ this s hs
  ·
   split at h
   ·
    cases h;simp
   ·
    split at h
    ·
     cases h;simp
    ·
     split at h
     ·
      cases h;simp
     ·
      cases h
theorem Ec {l:List Int} {t:Tk} {n:Nat} (h:f9 l=some (t,n)):0≤t.num:=by
 unfold f9 at h
 split at h
 ·
  cases h
 ·
  split at h
  ·
   cases h;simp
  ·
   split at h
   ·
    cases h;simp
   ·
    split at h
    ·
     cases h;simp
    ·
     split at h
     ·
      cases h
     ·
      split at h
      ·
       cases h;simp
      ·
       cases h;simp
theorem BH {l:List Int} {t:Tk} {n:Nat} (h:bC l=some (t,n)):0≤t.num:=by
 unfold bC at h
 split at h
 ·
  obtain ⟨⟨v,m⟩,hy,hx⟩:=Od.1 h
  cases hx
  exact zD hy
 ·
  split at h
  ·
   obtain ⟨x,_,hx⟩:=Od.1 h
   cases hx;simp
  ·
   split at h
   ·
    exact Ec h
   ·
    exact EJ h
theorem yM {l:List Int}: ∀ (f i:Nat) (r:List Tk),bn bC l f i= .ok r→ ∀ t∈r,0≤t.num:=by
 intro f
 induction f with
 |zero=>intro i r h;cases h;exact fun _ h=>by cases h
 |succ f ih=>
  intro i r h
  simp only [bn] at h
  split at h
  ·
   cases h;exact fun _ h=>by cases h
  ·
   split at h
   ·
    exact ih _ _ h
   ·
    split at h
    ·
     cases h
    ·
     rename_i t n ht
     cases hr:bn bC l f (i+n) with
     |error e=>rw [hr] at h;cases h
     |ok r' =>
      rw [hr] at h
      cases h
      intro u hu
      rcases NA.1 hu with rfl|hu
      ·
       have:=BH ht
       exact this
      ·
       exact ih _ _ hr u hu
theorem yL (l:List Int): ∀ t∈(bM bC l).1,0≤t.num:=by
 unfold bM
 split
 ·
  exact fun _ h=>by cases h
 ·
  split
  ·
   exact fun _ h=>by cases h
  ·
   split
   ·
    rename_i r hr
    exact yM _ _ _ hr
   ·
    exact fun _ h=>by cases h
def Wf (p:PS):Prop:=(∀ t∈p.l,0≤t.num)∧ ∀ n∈p.out,wfN n
theorem Wf.skip {p:PS} (h:Wf p):Wf p.skip:=⟨fun t ht=>h.1 t (List.mem_of_mem_tail ht),h.2⟩
theorem Wf.put {p:PS} (h:Wf p) {n:Nd} (hn:wfN n):Wf (p.put n):=⟨h.1,fun m hm=>by
 rcases NJ.1 hm with hm|hm
 ·
  exact h.2 m hm
 ·
  rw [NS.1 hm];exact hn⟩
theorem Kf {fin:Int} {l:List Tk} (h: ∀ t∈l,0≤t.num):0≤(hdT fin l).num:=by
 cases l with
 |nil=>exact OH _
 |cons t r=>exact h t Nj
theorem mo (k:Int) (r:Rct) (o:Int):wfN ⟨k,bK,r,o,0,0⟩:=⟨by simp [bK],OH 0,by simp⟩
theorem K0 {t:Tk} (h:0≤t.num):wfN (kS t):=by
 unfold kS
 refine ⟨?_,OH 0,by simp⟩
 simp only
 split
 ·
  simp only;omega
 ·
  split
  ·
   simp
  ·
   split
   ·
    simp only;omega
   ·
    simp only;omega
theorem qY (b:ByteArray):0≤(bf b).1∧(bf b).1≤255:=by
 have hb1:=iw cV b 0 (by omega)
 rw [il] at hb1
 unfold bf
 split
 ·
  dsimp only;omega
 ·
  dsimp only;omega
theorem tY {fin:Int} {name:Tk} {fn:Int} {n m:Nat} {p p' :PS} (h:dm fin name fn n p=some (.ok (m,p'))) (hw:Wf p) (h0:0≤fn) (h1:fn≤255):Wf p' :=by
 unfold dm at h
 dsimp only at h
 split at h
 ·
  cases h
 ·
  split at h
  ·
   cases h
  ·
   split at h
   ·
    cases h
   ·
    cases h
    exact hw.skip.put ⟨by simp [bK],h0,h1⟩
theorem DB (fin:Int): ∀ (f:Nat) (j:Job) (p:PS) (n:Nat) (p' :PS),bG fin f j p=some (.ok (n,p'))→Wf p→Wf p'
 |0,_,_,_,_,h,_=>by cases h
 |f+1,j,p,n,p',h,hw=>by
  have ih:=DB fin f
  cases j with
  |level k=>
   rw [bG] at h
   split at h
   ·
    exact ih _ _ _ _ h hw
   ·
    obtain ⟨n1,p1,h1,h2⟩:=cf h
    exact ih _ _ _ _ h2 (ih _ _ _ _ h1 hw)
  |loop k=>
   rw [bG] at h
   try dsimp only at h
   split at h
   ·
    obtain ⟨n1,p1,h1,h2⟩:=cf h
    exact ih _ _ _ _ h2 ((ih _ _ _ _ h1 hw.skip).put (mo _ _ _))
   ·
    cases h;exact hw
  |sign=>
   rw [bG] at h
   try dsimp only at h
   split at h
   ·
    obtain ⟨n1,p1,h1,h2⟩:=cf h
    cases h2
    exact (ih _ _ _ _ h1 hw.skip).put (mo _ _ _)
   ·
    obtain ⟨n1,p1,h1,h2⟩:=cf h
    split at h2
    ·
     obtain ⟨n2,p2,h3,h4⟩:=cf h2
     cases h4
     exact (ih _ _ _ _ h3 (ih _ _ _ _ h1 hw).skip).put (mo _ _ _)
    ·
     cases h2
     exact ih _ _ _ _ h1 hw
  |pct=>
   rw [bG] at h
   obtain ⟨n1,p1,h1,h2⟩:=cf h
   exact ih _ _ _ _ h2 (ih _ _ _ _ h1 hw)
  |pctl=>
   rw [bG] at h
   try dsimp only at h
   split at h
   ·
    exact ih _ _ _ _ h (hw.skip.put (mo _ _ _))
   ·
    cases h;exact hw
  |prim=>
   rw [bG] at h
   try dsimp only at h
   split at h
   ·
    cases h
    exact hw.skip.put (K0 (Kf hw.1))
   ·
    split at h
    ·
     cases h
     exact hw.skip.put (mo _ _ _)
    ·
     split at h
     ·
      obtain ⟨n1,p1,h1,h2⟩:=cf h
      split at h2
      ·
       cases h2
      ·
       cases h2
       exact (ih _ _ _ _ h1 hw.skip).skip
     ·
      split at h
      ·
       split at h
       ·
        cases h
       ·
        have hb:=qY (hdT fin p.l).text
        split at h
        ·
         cases h
        ·
         split at h
         ·
          exact tY h hw.skip.skip hb.1 hb.2
         ·
          obtain ⟨n1,p1,h1,h2⟩:=cf h
          exact tY h2 (ih _ _ _ _ h1 hw.skip.skip) hb.1 hb.2
      ·
       cases h
  |args fn i=>
   rw [bG] at h
   try dsimp only at h
   have hgo: ∀ p0:PS,Wf p0→(if (hdT fin p0.l).kind=11 then bG fin f (.args fn (i+1)) p0.skip else some (.ok (i+1,p0)))=some (.ok (n,p'))→Wf p' :=by
    intro p0 hw0 h0
    split at h0
    ·
     exact ih _ _ _ _ h0 hw0.skip
    ·
     cases h0;exact hw0
   split at h
   ·
    obtain ⟨n1,p1,h1,h2⟩:=cf h
    exact hgo p1 (ih _ _ _ _ h1 hw) h2
   ·
    split at h
    ·
     cases h
    ·
     exact hgo _ (hw.skip.put (mo _ _ _)) h
end Go.SL
