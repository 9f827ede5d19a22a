/-
  Lemmas and walks, put together: If Oc Hj Hk Hu Hv Hm Ib Ik Hn Jb Im Vb Vm.
-/
import Derived.Test.YtoanpdoacdpgeaaGreatDoorKr14
import Derived.Test.YtoanpdoacdpgeaaGreatDoorKr15
import Derived.Test.YtoanpdoacdpgeaaGreatDoorKr16
set_option linter.unusedSimpArgs false
set_option linter.unusedVariables false
set_option maxRecDepth 20000
namespace Go.SL
open Go Go.Proofs
attribute [local irreducible] W WL WQ WG WA WX WLI WR WT WC WE VOp RW thn blk bo scp aN bf bi aF FnIn FnP ceP
structure Bk where
 users:Int
 ents:List Et
 rules:List Rl
 grants:List Gn
 log:List Ev
 rels:List Rv
 step:Int
structure Bv where
 ae:Option Addr
 ar:Option Addr
 ag:Option Addr
 al:Option Addr
 as_:Option Addr
 ce:Nat
 cr:Nat
 cg:Nat
 cl:Nat
 cs:Nat
def bn (b:Bk) (x:Bv):List Value:= [.int .i64 b.users,.slice x.ae b.ents.length x.ce,.slice x.ar b.rules.length x.cr,.slice x.ag b.grants.length x.cg,.slice x.al b.log.length x.cl,.slice x.as_ b.rels.length x.cs,.int .i64 b.step]
structure BRd (w:World) (b:Bk) (x:Bv):Prop where
 e:Reads w (.slice x.ae b.ents.length x.ce) b.ents.length (b.ents.flatMap cW)
 r:Reads w (.slice x.ar b.rules.length x.cr) b.rules.length (b.rules.flatMap bH)
 g:Reads w (.slice x.ag b.grants.length x.cg) b.grants.length (b.grants.flatMap bB)
 l:Reads w (.slice x.al b.log.length x.cl) b.log.length (b.log.flatMap ed)
 s:Reads w (.slice x.as_ b.rels.length x.cs) b.rels.length (b.rels.flatMap aH)
theorem BRd.of_w0 {w w' :World} {b:Bk} {x:Bv} {H:List Blk} (h:BRd w b x) (hm:Mem w w' H):BRd w' b x:=⟨h.e.of_w0 hm,h.r.of_w0 hm,h.g.of_w0 hm,h.l.of_w0 hm,h.s.of_w0 hm⟩
def pd (s:Int) (L:List Ev):Bool:=if 0<L.length then decide (s≤((L[L.length - 1]?).map Ev.step).getD 0) else false
def o9 (s:Int) (L:List Rv):Bool:=if 0<L.length then decide (s≤((L[L.length - 1]?).map Rv.step).getD 0) else false
def bkE (b:Bk):Int:=
 if b.users<1∨64<b.users then 2
 else if (dm b.ents).2≠0 then (dm b.ents).2
 else if (eX b.users b.rules).2≠0 then (eX b.users b.rules).2
 else if (lF b.users b.grants).2≠0 then (lF b.users b.grants).2
 else if z1 b.users b.log b.rels≠0 then z1 b.users b.log b.rels
 else if b.step<0∨1099511627776<b.step then 2
 else if pd b.step b.log=true then 2
 else if o9 b.step b.rels=true then 2 else 0
theorem Rv.ro1 {w:World} {g o:Nat} {r:Rv} (h:Ro w g o (aH r)):Ro w g o [.int .i64 r.step]:=h.take (k:=1)
set_option maxHeartbeats 16000000 in
theorem kQ (b:Bk) (x:Bv) (w:World) (h:BRd w b x) (hW:Words w) (hlen:b.ents.length≤1000000):ay Tryz.prog 15 [.agg (bn b x).toArray] w (.int .i64 (bkE b)):=by
 have hent:=fun (w' :World) (H:List Blk) (hm:Mem w w' H)=>j8 b.ents _ w' (h.e.of_w0 hm) hlen (hW.next hm)
 have hacl:=fun (w' :World) (H:List Blk) (hm:Mem w w' H)=>gD b.users b.rules _ w' (h.r.of_w0 hm)
 have hgnt:=fun (w' :World) (H:List Blk) (hm:Mem w w' H)=>m3 b.users b.grants _ w' (h.g.of_w0 hm)
 have haud:=fun (w' :World) (H:List Blk) (hm:Mem w w' H)=>vM b.users b.log b.rels _ _ w' (h.l.of_w0 hm) (h.s.of_w0 hm)
 refine aq Tryz.func15 rfl Tryz.ntmps15 rfl ?_
 unfold bkE
 obtain ⟨Al,cl,el,hl1,hl2,hl3⟩:=h.l
 obtain ⟨Am,cm,em,hm1,hm2,hm3⟩:=h.s
 have hl3' :0<b.log.length→ ∃ g o,x.al=some ⟨g,o,none⟩∧Ro w g o (b.log.flatMap ed):=by
  cases el
  exact hl3
 have hm3' :0<b.rels.length→ ∃ g o,x.as_=some ⟨g,o,none⟩∧Ro w g o (b.rels.flatMap aH):=by
  cases em
  exact hm3
 have hLm:b.log.length≤maxLen:=IW hl1 hl2
 have hMm:b.rels.length≤maxLen:=IW hm1 hm2
 clear hl1 hl2 hl3 hm1 hm2 hm3 el em
 generalize dm b.ents=ce at hent ⊢
 generalize eX b.users b.rules=ae at hacl ⊢
 generalize lF b.users b.grants=ge at hgnt ⊢
 generalize z1 b.users b.log b.rels=ue at haud ⊢
 obtain ⟨us,E,RU,G,L,M,st⟩:=b
 obtain ⟨ae1,ar1,ag1,al1,as1,ce1,cr1,cg1,cl1,cs1⟩:=x
 dsimp only at*
 simp only [bn] at*
 have hL:(L.length=0∧pd st L=false)∨(0<L.length∧ ∃ g o s,al1=some ⟨g,o,none⟩∧Ro w g (o+(L.length - 1)*9) [.int .i64 s]∧pd st L=decide (st≤s)):=by
  rcases Jf L.length with h0|hp
  ·
   exact .inl ⟨h0,by unfold pd;rw [if_neg (by omega)]⟩
  ·
   obtain ⟨g,o,e,hr⟩:=hl3' hp
   have hlt:L.length - 1<L.length:=by omega
   exact .inr ⟨hp,g,o,L[L.length - 1].step,e,(Ev.ro (hr.elem jR (L.length - 1) hlt)).1,by unfold pd;rw [if_pos hp,HY hlt];rfl⟩
 have hM:(M.length=0∧o9 st M=false)∨(0<M.length∧ ∃ g o s,as1=some ⟨g,o,none⟩∧Ro w g (o+(M.length - 1)*11) [.int .i64 s]∧o9 st M=decide (st≤s)):=by
  rcases Jf M.length with h0|hp
  ·
   exact .inl ⟨h0,by unfold o9;rw [if_neg (by omega)]⟩
  ·
   obtain ⟨g,o,e,hr⟩:=hm3' hp
   have hlt:M.length - 1<M.length:=by omega
   exact .inr ⟨hp,g,o,M[M.length - 1].step,e,Rv.ro1 (hr.elem cf (M.length - 1) hlt),by unfold o9;rw [if_pos hp,HY hlt];rfl⟩
 generalize pd st L=le at hL ⊢
 generalize o9 st M=lr at hM ⊢
 clear hl3' hm3'
 generalize L.length=nl at*
 generalize M.length=nm at*
 generalize E.length=nE at*
 generalize RU.length=nR at*
 generalize G.length=nG at*
 rcases hL with ⟨hL,rfl⟩|⟨hL,g1,o1,s1,rfl,hr1,rfl⟩<;>rcases hM with ⟨hM,rfl⟩|⟨hM,g2,o2,s2,rfl,hr2,rfl⟩
 all_goals
  repeat' (first|(apply ah (f:=59);exact rfl;exact rfl;(intro w' hm;exact hent w' _ hm))|(apply ah (f:=60);exact rfl;exact rfl;(intro w' hm;exact hacl w' _ hm))|(apply ah (f:=61);exact rfl;exact rfl;(intro w' hm;exact hgnt w' _ hm))|(apply ah (f:=62);exact rfl;exact rfl;(intro w' hm;exact haud w' _ hm))|(apply aK;exact rfl;apply da;exact rfl;exact rfl;omega;(simp only [maxLen] at*;omega))|(apply aK;exact rfl;apply ai (j:=nl - 1);exact rfl;exact rfl;omega)|(apply aK;exact rfl;apply ai (j:=nm - 1);exact rfl;exact rfl;omega)|refine sT ?_|refine sS ?_|refine sQ ?_|refine sN ?_|refine sNQ ?_|refine sO ?_|refine sOQ ?_|refine sD ?_|refine sM fun _=> ?_|(refine sC ?_ ?_<;>intro hb<;>try omega)|(refine sCQ ?_ ?_<;>intro hb<;>try omega)|fail)
 all_goals first
  |(exfalso;omega)
  |((refine rT1 ?_);simp_all;done)
  |((refine rT1 ?_);simp_all;omega)
end Go.SL
namespace Go.SL
open Go
structure BkOk (b:Bk):Prop where
 u:1≤b.users∧b.users≤64
 e:(dm b.ents).2=0
 r:(eX b.users b.rules).2=0
 g:(lF b.users b.grants).2=0
 l:z1 b.users b.log b.rels=0
 s:0≤b.step∧b.step≤1099511627776
 le:pd b.step b.log=false
 lr:o9 b.step b.rels=false
theorem xw {b:Bk}:bkE b=0↔BkOk b:=by
 constructor
 ·
  intro h
  unfold bkE at h
  split at h
  ·
   cases h
  split at h
  ·
   rename_i h2;exact absurd h h2
  split at h
  ·
   rename_i h2;exact absurd h h2
  split at h
  ·
   rename_i h2;exact absurd h h2
  split at h
  ·
   rename_i h2;exact absurd h h2
  split at h
  ·
   cases h
  split at h
  ·
   cases h
  split at h
  ·
   cases h
  exact ⟨by omega,by omega,by omega,by omega,by omega,by omega,by simp_all,by simp_all⟩
 ·
  intro h
  have h1:=h.u
  have h2:=h.s
  unfold bkE
  rw [if_neg (by omega),if_neg (by rw [h.e];decide),if_neg (by rw [h.r];decide),if_neg (by rw [h.g];decide),if_neg (by rw [h.l];decide),if_neg (by omega),if_neg (by rw [h.le];decide),if_neg (by rw [h.lr];decide)]
def WiU (u:Int) (x:BitVec 64):Prop:=x &&& ~~~(fX u).1=0#64
theorem Gv (x:BitVec 64):WiU 64 x:=by
 unfold WiU
 rw [show ~~~(fX 64).1=0#64 by decide+kernel,BitVec.and_zero]
theorem nn {u:Int}: ∀ {L:List Rl} {i:Int},(gC u L i).2=0↔ ∀ r∈L,bq r.rect=true∧WiU u (r.read|||r.write|||r.own)
 | [],_=>⟨fun _ _ h=>(by cases h),fun _=>rfl⟩
 |r::L,i=>by
  rw [gC]
  split
  ·
   rename_i h
   exact ⟨fun h=>(by cases h),fun h2=>by rw [(h2 r H4).1] at h;cases h⟩
  split
  ·
   rename_i h
   exact ⟨fun h=>(by cases h),fun h2=>absurd (h2 r H4).2 h⟩
  ·
   rename_i h1 h2
   rw [nn (L:=L)]
   refine ⟨fun h r' hr=> ?_,fun h r' hr=>h r' (H9 _ hr)⟩
   rcases Ie.1 hr with rfl|hr
   ·
    exact ⟨by simpa using h1,Classical.not_not.1 h2⟩
   ·
    exact h r' hr
theorem EH {u:Int} {L:List Rl}:(eX u L).2=0↔(1≤u∧u≤64)∧L≠ []∧L.length≤64∧L.head?.map (fun x=>x.rect)=some oM∧ ∀ r∈L,bq r.rect=true∧WiU u (r.read|||r.write|||r.own):=by
 unfold eX
 split
 ·
  rename_i h
  refine ⟨fun h=>(by cases h),fun h2=> ?_⟩
  rcases h with h|h|h|h
  ·
   omega
  ·
   omega
  ·
   omega
  ·
   exact absurd h h2.2.1
 rename_i h1
 have hL:L≠ []:=fun e=>h1 (.inr (.inr (.inr e)))
 have hu:1≤u∧u≤64:=by omega
 split
 ·
  exact ⟨fun h=>(by cases h),fun h2=>by omega⟩
 split
 ·
  rename_i h3;exact ⟨fun h=>(by cases h),fun h2=>absurd h2.2.2.2.1 h3⟩
 ·
  rename_i h2 h3
  rw [nn]
  exact ⟨fun h=>⟨hu,hL,by omega,Decidable.not_not.1 h3,h⟩,fun h=>h.2.2.2.2⟩
theorem Gi {u:Int} {L:List Rl} (h:(eX u L).2=0):(eX 64 L).2=0:=by
 rw [EH] at h ⊢
 exact ⟨by decide,h.2.1,h.2.2.1,h.2.2.2.1,fun r hr=>⟨(h.2.2.2.2 r hr).1,Gv _⟩⟩
theorem mZ {u:Int}: ∀ {L:List Gn} {i:Int},(gy u L i).2=0↔ ∀ g∈L,bq g.rect=true∧Eh u g=true
 | [],_=>⟨fun _ _ h=>(by cases h),fun _=>rfl⟩
 |r::L,i=>by
  rw [gy]
  split
  ·
   rename_i h
   exact ⟨fun h=>(by cases h),fun h2=>by rw [(h2 r H4).1] at h;cases h⟩
  split
  ·
   rename_i h
   exact ⟨fun h=>(by cases h),fun h2=>by rw [(h2 r H4).2] at h;cases h⟩
  ·
   rename_i h1 h2
   rw [mZ (L:=L)]
   refine ⟨fun h r' hr=> ?_,fun h r' hr=>h r' (H9 _ hr)⟩
   rcases Ie.1 hr with rfl|hr
   ·
    exact ⟨by simpa using h1,by simpa using h2⟩
   ·
    exact h r' hr
theorem yw {u:Int} {L:List Gn}:(lF u L).2=0↔(1≤u∧u≤64)∧L.length≤64∧ ∀ g∈L,bq g.rect=true∧Eh u g=true:=by
 unfold lF
 split
 ·
  exact ⟨fun h=>(by cases h),fun h2=>by omega⟩
 split
 ·
  exact ⟨fun h=>(by cases h),fun h2=>by omega⟩
 ·
  rw [mZ]
  exact ⟨fun h=>⟨by omega,by omega,h⟩,fun h=>h.2.2⟩
end Go.SL
namespace Go.SL
open Go Go.Proofs
attribute [local irreducible] W WL WQ WG WA WX WLI WR WT WC WE VOp RW thn blk bo scp aN bf bi aF FnIn FnP ceP
--
theorem Cu {l m:List Pz} {p:Pz} (hm:m≠ []):l++fP m p=fP (l++m) p:=by
 have e:=Jj hm
 generalize hd:m.dropLast=d at e
 generalize m.getLast hm=q at e
 subst e
 unfold fP
 rw [← Il,List.getLast?_concat,List.getLast?_concat]
 dsimp only
 rw [List.dropLast_concat,List.dropLast_concat]
 split<;>simp
theorem rj {O:List Pz} {q p:Pz}:fP (O++ [q]) p=if q.a=p.a∧q.b=p.b then O++ [⟨⟨q.rect.c1,q.rect.r1,p.rect.c2,q.rect.r2⟩,q.a,q.b⟩] else O++ [q]++ [p]:=by
 unfold fP
 rw [List.getLast?_concat]
 dsimp only
 rw [List.dropLast_concat]
theorem yc {A B:List Rl} {y:Int × Int} (xs:List (Int × Int)):(fK A B y xs).length≤xs.length:=by
 induction xs using nN with
 |h0=>exact Ih _
 |h1 xs x ih=>
  rw [gS,HV,Ii]
  generalize fK A B y xs=l at ih
  unfold fP
  cases h:l.getLast? with
  |none=>simp
  |some q=>
   dsimp only
   split
   ·
    rw [HV,List.length_dropLast,Ii];omega
   ·
    rw [HV,Ii];omega
theorem uA {A B:List Rl} {y:Int × Int}:fK A B y []= []:=rfl
def eS (A B:List Rl) (ys xs:List (Int × Int)):List Pz:=ys.flatMap fun y=>fK A B y xs
theorem uy {A B:List Rl} {ys xs:List (Int × Int)} {y:Int × Int}:eS A B (ys++ [y]) xs=eS A B ys xs++fK A B y xs:=by unfold eS;simp
theorem iK {A B:List Rl} {xs:List (Int × Int)}: ∀ ys:List (Int × Int),(eS A B ys xs).length≤ys.length*xs.length
 | []=>by simp [eS]
 |y::ys=>by
  have h1:=iK (A:=A) (B:=B) (xs:=xs) ys
  have h2:=yc (A:=A) (B:=B) (y:=y) xs
  unfold eS at h1 ⊢
  rw [IP,HV,IA,Nat.succ_mul]
  omega
theorem FR {A B:List Rl} {y:Int × Int} (xs:List (Int × Int)): ∀ q∈fK A B y xs,q.rect.r1=y.1∧ ∃ x∈xs,q.rect.c1=x.1:=by
 induction xs using nN with
 |h0=>intro q hq;cases hq
 |h1 xs x ih=>
  intro q hq
  rw [gS] at hq
  by_cases hn:fK A B y xs= []
  ·
   rw [hn] at hq
   have:q=kF A B y x:=by simpa [fP] using hq
   subst this
   exact ⟨rfl,x,by simp,rfl⟩
  ·
   have e:=Jj hn
   generalize (fK A B y xs).dropLast=d at e
   generalize (fK A B y xs).getLast hn=z at e
   rw [← e] at hq ih
   rw [rj] at hq
   have hz:=ih z (by simp)
   split at hq
   ·
    rcases ID.1 hq with hq|hq
    ·
     obtain ⟨h1,x',h2,h3⟩:=ih q (by simp [hq])
     exact ⟨h1,x',by simp [h2],h3⟩
    ·
     rw [Iz.1 hq]
     obtain ⟨h1,x',h2,h3⟩:=hz
     exact ⟨h1,x',by simp [h2],h3⟩
   ·
    rcases ID.1 hq with hq|hq
    ·
     obtain ⟨h1,x',h2,h3⟩:=ih q hq
     exact ⟨h1,x',by simp [h2],h3⟩
    ·
     rw [Iz.1 hq]
     exact ⟨rfl,x,by simp,rfl⟩
theorem uI {r:Rct} {A B:List Rl} (hrs:1≤r.c1∧r.c1≤r.c2∧r.c2≤1024∧1≤r.r1∧r.r1≤r.r2∧r.r2≤1024): ∀ p∈cA r A B,oK p:=fun p hp=>by
 obtain ⟨y,hy,hp⟩:=I6.1 hp
 obtain ⟨h1,x,hx,h2⟩:=FR _ p hp
 have h3:=jV hy
 have h4:=jV hx
 unfold oK
 omega
set_option maxHeartbeats 16000000 in
theorem BL (r:Rct) (hr:bq r=true) (A B:List Rl) (la lb:Value) (w:World) (hla:Reads w la A.length (A.flatMap bH)) (hlb:Reads w lb B.length (B.flatMap bH)) (hA:A.length≤200) (hB:B.length≤200):
    aF Tryz.prog 141 [.agg (bu r).toArray,la,lb] w fun v H=> ∃ Ap cap,v=sl Ap (cA r A B).length cap∧H= [.own Ap 191 6 (cA r A B).length cap ((cA r A B).flatMap bK)]:=by
  refine aq Tryz.func141 rfl Tryz.ntmps141 rfl ?_
  have hrs:=iM.1 hr
  have hZ:InZ (cA r A B):=by
    refine ⟨su r A B,uI hrs,?_⟩
    have h1:=iK (A:=A) (B:=B) (xs:=bC r.c1 r.c2 (aJ r A++aJ r B)) (bC r.r1 r.r2 (aI r A++aI r B))
    have h2:=eJ r.c1 r.c2 (aJ r A++aJ r B)
    have h3:=eJ r.r1 r.r2 (aI r A++aI r B)
    have h4:=cD r A
    have h5:=cD r B
    have h6:=ck r A
    have h7:=ck r B
    rw [HV] at h2 h3
    refine IW h1 (IW (Nat.mul_le_mul (show _≤801 by omega) (show _≤801 by omega)) (by decide))
  have hnA:=fun (gr gc gw:Nat)=>yj r A la gr gc gw none none 0 0 [] [] [] w hla (by simp;omega) (by simp;omega)
  have hnB:=fun (gr gc gw:Nat) (A1 A2:Option Nat) (c1 c2:Nat)=>yj r B lb gr gc gw A1 A2 c1 c2 (aJ r A) (aI r A) [] w hlb (by have:=cD r A;omega) (by have:=ck r A;omega)
  have hcl:(aJ r A++aJ r B).length≤400:=by have:=cD r A;have:=cD r B;rw [HV];omega
  have hwl:(aI r A++aI r B).length≤400:=by have:=ck r A;have:=ck r B;rw [HV];omega
  have hcs: ∀ p∈aJ r A++aJ r B,0≤p.1∧p.1≤100000∧0≤p.2∧p.2≤100000:=fun p hp=>(ID.1 hp).elim (lM p) (lM p)
  have hws: ∀ p∈aI r A++aI r B,0≤p.1∧p.1≤100000∧0≤p.2∧p.2≤100000:=fun p hp=>(ID.1 hp).elim (lh p) (lh p)
  have hb1:=fun (w' :World) (lv:Value) (h:Reads w' lv _ _)=>vL r.c1 r.c2 (aJ r A++aJ r B) lv w' h (by omega) (by omega) (by omega) hcs
  have hb2:=fun (w' :World) (lv:Value) (h:Reads w' lv _ _)=>vL r.r1 r.r2 (aI r A++aI r B) lv w' h (by omega) (by omega) (by omega) hws
  have hxl:=eJ r.c1 r.c2 (aJ r A++aJ r B)
  have hyl:=eJ r.r1 r.r2 (aI r A++aI r B)
  have hpf:cA r A B=eS A B (bC r.r1 r.r2 (aI r A++aI r B)) (bC r.c1 r.c2 (aJ r A++aJ r B)):=rfl
  generalize cA r A B=PZ at hZ hpf ⊢
  generalize hX:bC r.c1 r.c2 (aJ r A++aJ r B)=xB at hb1 hxl hpf
  generalize hY:bC r.r1 r.r2 (aI r A++aI r B)=yB at hb2 hyl hpf
  generalize hCO:aJ r A++aJ r B=CO at hb1 hcl hxl
  generalize hRO:aI r A++aI r B=RO at hb2 hwl hyl
  refine aw 189 2 ?_
  refine aw 189 2 ?_
  repeat' (first|(apply i9 (d:=21);exact rfl;exact rfl;infer_instance;exact rfl;exact FnIn.msub (hnA _ _ _) (by simp only [mU,Ij,HW,HZ];exact mS);rintro _ _ ⟨rfl,A1,c1,A2,c2,rfl⟩)|(apply i9 (d:=24);exact rfl;exact rfl;infer_instance;exact rfl;exact FnIn.msub (hnB _ _ _ A1 A2 c1 c2) (by simp only [mU,Ij,HW,HZ];exact mS);rintro _ _ ⟨rfl,A3,c3,A4,c4,rfl⟩)|refine sT ?_|refine sS ?_|refine sT2 ?_|refine sM fun _=> ?_|(refine sC ?_ ?_<;>intro hb<;>try omega)|exact cT|fail)
  rename_i g3 g7 g8
  rw [hCO,hRO]
  simp only [mU,Ij,HW,HZ]
  refine lY (fun _:Option Nat × Nat × Option Nat × Nat=> [(1,la),(2,lb),(3,.pointer (some ⟨g3,0,none⟩)),(7,.pointer (some ⟨g7,0,none⟩)),(8,.pointer (some ⟨g8,0,none⟩))]) (fun y=> .box g7 232 [sl y.1 xB.length y.2.1]:: .own y.1 189 2 xB.length y.2.1 (xB.flatMap bL):: .box g8 232 [sl y.2.2.1 yB.length y.2.2.2]:: .own y.2.2.1 189 2 yB.length y.2.2.2 (yB.flatMap bL):: []) (fun _=>True) ?_ ?_
  · refine nM (id:=5) [4,5,10,11,12,13] [.box g3 32 (bu r)] 14 rfl rfl mS ?_
    repeat' (first|(apply dI (i:=0);(iterate 4 exact rfl);decide+kernel;decide+kernel;decide+kernel;(exact vC))|(apply dI (i:=1);(iterate 4 exact rfl);decide+kernel;decide+kernel;decide+kernel;(exact vC))|(apply dI (i:=2);(iterate 4 exact rfl);decide+kernel;decide+kernel;decide+kernel;(exact vC))|(apply dI (i:=3);(iterate 4 exact rfl);decide+kernel;decide+kernel;decide+kernel;(exact vC))|(apply dI (i:=6);(iterate 4 exact rfl);decide+kernel;decide+kernel;decide+kernel;(exact vC))|(apply dI (i:=7);(iterate 4 exact rfl);decide+kernel;decide+kernel;decide+kernel;(exact vC))|(apply dI (i:=8);(iterate 4 exact rfl);decide+kernel;decide+kernel;decide+kernel;(exact vC))|(apply dI (i:=9);(iterate 4 exact rfl);decide+kernel;decide+kernel;decide+kernel;(exact vC))|(apply dR (i:=4) (j:=10);(iterate 6 exact rfl);decide+kernel)|(apply dR (i:=5) (j:=10);(iterate 6 exact rfl);decide+kernel)|(apply dR (i:=12) (j:=13);(iterate 6 exact rfl);decide+kernel)|(apply bM (i:=4);(iterate 3 exact rfl);decide+kernel)|(apply bM (i:=5);(iterate 3 exact rfl);decide+kernel)|(apply bM (i:=10);(iterate 3 exact rfl);decide+kernel)|(apply bM (i:=11);(iterate 3 exact rfl);decide+kernel)|(apply bM (i:=12);(iterate 3 exact rfl);decide+kernel)|(apply bM (i:=13);(iterate 3 exact rfl);decide+kernel)|(apply av (d:=30);exact rfl;exact rfl;(intro w' hm;exact hb1 w' _ (Reads.of_own (A:=A3) hm pK));rintro _ _ ⟨A5,c5,rfl,rfl⟩)|(apply av (d:=36);exact rfl;exact rfl;(intro w' hm;exact hb2 w' _ (Reads.of_own (A:=A4) hm pK));rintro _ _ ⟨A6,c6,rfl,rfl⟩)|(apply nK;decide+kernel)|(apply CR;(focus (exact mS;done)))|refine sT ?_|refine sS ?_|refine sT2 ?_|refine sM fun _=> ?_|(refine sC ?_ ?_<;>intro hb<;>try omega)|exact cT|fail)
    all_goals first
      |(exfalso;omega)
      |(exact cH (A5,c5,A6,c6) trivial sB mS)
  rintro ⟨A5,c5,A6,c6⟩ _
  dsimp only
  clear hnA hnB hb1 hb2 hX hY hCO hRO
  refine aw 191 6 ?_
  repeat' (first|refine sT ?_|refine sS ?_|refine sT2 ?_|refine sM fun _=> ?_|(refine sC ?_ ?_<;>intro hb<;>try omega)|exact cT|fail)
  refine ax [1,2,7,37,38] rfl (fun y:Nat × Option Nat × Nat=> [(10,sl y.2.1 (eS A B (yB.take y.1) xB).length y.2.2),(39,.int .i64 (y.1:Int))]) (fun y=> .own y.2.1 191 6 (eS A B (yB.take y.1) xB).length y.2.2 ((eS A B (yB.take y.1) xB).flatMap bK):: .box g7 232 [sl A5 xB.length c5]:: .own A5 189 2 xB.length c5 (xB.flatMap bL):: .own A6 189 2 yB.length c6 (yB.flatMap bL):: []) (fun y=>y.1≤yB.length) (fun y=>yB.length - y.1) (0,none,0) (H5 _) sB mS ?_
  rintro ⟨j,Ao,co⟩ hj
  dsimp only at hj ⊢
  by_cases hjl:j<yB.length
  · refine ez (A:=A6) pK (by omega) fun g6 hA6=> ?_
    subst hA6
    have hrd:((yB.flatMap bL).drop (0+j*2)).take 2=bL yB[j]:=by rw [H8];exact cd fD yB j hjl
    have hsn:=uy (A:=A) (B:=B) (ys:=yB.take j) (xs:=xB) (y:=yB[j])
    rw [← H7 hjl] at hsn
    have hpl:(eS A B (yB.take j) xB).length≤700000:=by
      have h1:=iK (A:=A) (B:=B) (xs:=xB) (yB.take j)
      refine IW h1 (IW (Nat.mul_le_mul (show _≤801 by rw [IU];omega) (show _≤801 by omega)) (by decide))
    generalize yB[j]=y at hrd hsn
    generalize eS A B (yB.take j) xB=prev at hsn hpl ⊢
    repeat' (first|(apply aj (d:=41);exact rfl;apply ai (j:=j);exact rfl;exact rfl;exact hjl)|(apply aj (d:=42);exact rfl;apply aR (ys:=bL y);exact rfl;exact pK;exact hrd;exact rfl)|refine sT ?_|refine sS ?_|refine sT2 ?_|refine sN ?_|refine sM fun _=> ?_|(refine sC ?_ ?_<;>intro hb<;>try omega)|exact cT|fail)
    all_goals try (exfalso;omega)
    rename_i g12
    refine ax [1,2,7,12,13,37,38,39,45,46] rfl (fun z:Nat × Option Nat × Nat=> [(10,sl z.2.1 (prev++fK A B y (xB.take z.1)).length z.2.2),(47,.int .i64 (z.1:Int))]) (fun z=> .own z.2.1 191 6 (prev++fK A B y (xB.take z.1)).length z.2.2 ((prev++fK A B y (xB.take z.1)).flatMap bK):: .box g12 189 (bL y):: .box g7 232 [sl A5 xB.length c5]:: .own A5 189 2 xB.length c5 (xB.flatMap bL):: .own (some g6) 189 2 yB.length c6 (yB.flatMap bL):: []) (fun z=>z.1≤xB.length) (fun z=>xB.length - z.1) (0,Ao,co) (H5 _) (by rw [JA,uA,Ig];exact sB) (by rw [JA,uA,Ig];exact mS) ?_
    rintro ⟨k,Az,cz⟩ hk
    dsimp only at hk ⊢
    by_cases hkl:k<xB.length
    · refine ez (A:=A5) pK (by omega) fun g5 hA5=> ?_
      subst hA5
      have hrx:((xB.flatMap bL).drop (0+k*2)).take 2=bL xB[k]:=by rw [H8];exact cd fD xB k hkl
      have hrn:=gS (A:=A) (B:=B) (y:=y) (xs:=xB.take k) (x:=xB[k])
      rw [← H7 hkl] at hrn
      have hcl2:=yc (A:=A) (B:=B) (y:=y) (xB.take k)
      rw [IU] at hcl2
      generalize xB[k]=x at hrx hrn
      have hw1:=fun (w' :World) (H:List Blk) (hm:Mem w w' H)=>tR (js y x) A la w' (hla.of_w0 hm) (by omega)
      have hw2:=fun (w' :World) (H:List Blk) (hm:Mem w w' H)=>tR (js y x) B lb w' (hlb.of_w0 hm) (by omega)
      have hp:kF A B y x=⟨js y x,eu (js y x) A,eu (js y x) B⟩:=rfl
      rw [hp] at hrn
      generalize eu (js y x) A=wa at hw1 hrn
      generalize eu (js y x) B=wb at hw2 hrn
      clear hp
      repeat' (first|(apply aj (d:=49);exact rfl;apply ai (j:=k);exact rfl;exact rfl;exact hkl)|(apply aj (d:=50);exact rfl;apply aR (ys:=bL x);exact rfl;exact pK;exact hrx;exact rfl)|refine sT ?_|refine sS ?_|refine sT2 ?_|refine sN ?_|refine sM fun _=> ?_|(refine sC ?_ ?_<;>intro hb<;>try omega)|exact cT|fail)
      all_goals try (exfalso;omega)
      rename_i g15 g16
      generalize fK A B y (xB.take k)=cur at hrn hcl2 ⊢
      have hOl:(prev++cur).length≤800000:=by rw [HV];omega
      refine jD (id:=15) 10 (.box g16 191 (bK ⟨js y x,wa,wb⟩):: .own Az 191 6 (prev++cur).length cz ((prev++cur).flatMap bK):: .box g12 189 (bL y):: .box g7 232 [sl (some g5) xB.length c5]:: .own (some g5) 189 2 xB.length c5 (xB.flatMap bL):: .own (some g6) 189 2 yB.length c6 (yB.flatMap bL):: []) (by kernel_rfl) (by kernel_rfl) rfl ?_
      repeat' (first|(apply yT (f' :=183) (f:=60);exact rfl;decide+kernel;exact rfl;exact rfl;(intro w' hm;first|exact hw1 w' _ hm|exact hw2 w' _ hm))|(apply tS (f:=60) (d:=69);exact rfl;decide+kernel;exact rfl;apply jG;(iterate 5 exact rfl))|(apply ja;exact rfl;exact rfl;exact pK;(iterate 3 exact rfl);exact Ji rfl;exact mS)|refine sT ?_|refine sS ?_|refine sT2 ?_|refine sG2 ?_|refine sG ?_|refine sM fun _=> ?_|(refine sC ?_ ?_<;>intro hb<;>try omega)|exact cT|fail)
      all_goals try (exfalso;omega)
      rcases Jf cur.length with h0|hpos
      · have hc0:cur= []:=Jz.1 h0
        subst hc0
        have hg:fP [] (⟨js y x,wa,wb⟩:Pz)= [⟨js y x,wa,wb⟩]:=rfl
        rw [hg] at hrn
        rw [Ig] at hOl ⊢
        repeat' (first|(apply gH (id:=17);kernel_rfl;kernel_rfl)|(apply aV (d:=99) (A:=Az) (m:=1);(iterate 3 exact rfl);exact pK;(intro w hm;exact hm.cells_own pK);exact rfl;(simp [Value.oneCell',sl,bK]);omega;(simp only [maxLen];omega);(intro A' cap' hA'))|refine sT ?_|refine sS ?_|refine sQ ?_|refine sT2 ?_|refine sQ2 ?_|refine sN ?_|refine sNQ ?_|refine sD ?_|refine sM fun _=> ?_|(refine sC ?_ ?_<;>intro hb<;>try omega)|(refine sCQ ?_ ?_<;>intro hb<;>try omega)|exact cT|fail)
        all_goals first
          |(exfalso;omega)
          | (refine ⟨(k + 1, A', cap'), hkl, by dsimp only; omega, ?_, by exact sB, ?_⟩
             · dsimp only;rw [hrn,List.length_append];exact sB
             · dsimp only;rw [hrn,List.length_append,List.flatMap_append];exact mS)
      · have hne:cur≠ []:=Jc.1 hpos
        have hga:=Cu (l:=prev) (p:=(⟨js y x,wa,wb⟩:Pz)) hne
        rw [← hrn] at hga
        have hlt2:prev.length<(prev++cur).length:=by rw [HV];omega
        have hOe:=Jj (l:=prev++cur) (by simp [hne])
        generalize (prev++cur).dropLast=O at hOe
        generalize (prev++cur).getLast _=q at hOe
        rw [← hOe] at hga hlt2 hOl ⊢
        rw [rj] at hga
        have hOn:(O++ [q]).length=O.length+1:=by simp
        rw [hOn] at hOl hlt2
        have hq2:(((O++ [q]).flatMap bK).drop (0+O.length*6+4)).take 2=ik (q.a,q.b):=by
          have h1:=cd bF (O++ [q]) O.length (by simp)
          have h2:=congrArg (List.drop 4) h1
          rw [List.drop_take,JG] at h2
          simp only [List.getElem_concat_length] at h2
          rw [H8]
          exact h2
        refine ez (A:=Az) pK (by omega) fun gz hAz=> ?_
        subst hAz
        obtain ⟨c,hc⟩: ∃ c,decide ((q.a,q.b)=(wa,wb))=c:=⟨_,rfl⟩
        cases c with
        |true=>
          have hab:q.a=wa∧q.b=wb:=by simpa using hc
          rw [if_pos hab] at hga
          have hset:=zK bF (O++ [q]) O.length 2 (by simp) (by decide) (.int .i64 x.2) ⟨⟨q.rect.c1,q.rect.r1,x.2,q.rect.r2⟩,q.a,q.b⟩ (by simp only [List.getElem_concat_length];rfl)
          rw [J4 _ _ (Ih _),Nat.sub_self,List.set_cons_zero] at hset
          have hOl3:((O++ [q]).flatMap bK).length=(O.length+1)*6:=by rw [aC bF,hOn]
          rw [hOn]
          repeat' (first|(apply gH (id:=17);kernel_rfl;kernel_rfl)|(apply aK (d:=79);exact rfl;apply da (a:=O.length+1);exact rfl;exact rfl;omega;(simp only [maxLen];omega))|(apply aK (d:=80);exact rfl;apply ai (j:=O.length);exact rfl;exact rfl;omega)|(apply aK (d:=82);exact rfl;apply aR (ys:=ik (q.a,q.b));exact rfl;exact pK;exact hq2;exact rfl)|(apply aK (d:=85);exact rfl;apply xZ (a:=(q.a,q.b)) (b:=(wa,wb)) hc;exact rfl;exact rfl)|(apply aj (d:=89);exact rfl;apply da (a:=O.length+1);exact rfl;exact rfl;omega;(simp only [maxLen];omega))|(apply aj (d:=93);exact rfl;apply ai (j:=O.length);exact rfl;exact rfl;omega)|(apply iz (v:= .int .i64 x.2) (off:=0+O.length*6+2);exact rfl;exact rfl;exact pK;exact rfl;(rw [hOl3];omega);rw [H8,hset])|refine sT ?_|refine sS ?_|refine sQ ?_|refine sT2 ?_|refine sQ2 ?_|refine sN ?_|refine sNQ ?_|refine sD ?_|refine sM fun _=> ?_|(refine sC ?_ ?_<;>intro hb<;>try omega)|(refine sCQ ?_ ?_<;>intro hb<;>try omega)|exact cT|fail)
          all_goals first
            |(exfalso;omega)
            | (refine ⟨(k + 1, some gz, cz), hkl, by dsimp only; omega, ?_, by exact sB, ?_⟩
               · dsimp only;rw [hga,List.length_append];exact sB
               · dsimp only;rw [hga,List.length_append];exact mS)
        |false=>
          have hab: ¬ (q.a=wa∧q.b=wb):=by simpa using hc
          rw [if_neg hab] at hga
          rw [hOn]
          repeat' (first|(apply gH (id:=17);kernel_rfl;kernel_rfl)|(apply aK (d:=79);exact rfl;apply da (a:=O.length+1);exact rfl;exact rfl;omega;(simp only [maxLen];omega))|(apply aK (d:=80);exact rfl;apply ai (j:=O.length);exact rfl;exact rfl;omega)|(apply aK (d:=82);exact rfl;apply aR (ys:=ik (q.a,q.b));exact rfl;exact pK;exact hq2;exact rfl)|(apply aK (d:=85);exact rfl;apply xZ (a:=(q.a,q.b)) (b:=(wa,wb)) hc;exact rfl;exact rfl)|(apply aV (d:=99) (A:=some gz) (m:=1);(iterate 3 exact rfl);exact pK;(intro w hm;exact hm.cells_own pK);exact rfl;(simp [Value.oneCell',sl,bK]);omega;(simp only [maxLen];omega);(intro A' cap' hA'))|refine sT ?_|refine sS ?_|refine sQ ?_|refine sT2 ?_|refine sQ2 ?_|refine sN ?_|refine sNQ ?_|refine sD ?_|refine sM fun _=> ?_|(refine sC ?_ ?_<;>intro hb<;>try omega)|(refine sCQ ?_ ?_<;>intro hb<;>try omega)|exact cT|fail)
          all_goals first
            |(exfalso;omega)
            | (refine ⟨(k + 1, A', cap'), hkl, by dsimp only; omega, ?_, by exact sB, ?_⟩
               · dsimp only;rw [hga,List.length_append,hOn];exact sB
               · dsimp only;rw [hga,List.length_append,hOn,List.flatMap_append (xs:=O++ [q])];exact mS)
    · have e:k=xB.length:=by omega
      subst e
      rw [IX,← hsn]
      repeat' (first|refine sT ?_|refine sS ?_|refine sT2 ?_|refine sN ?_|refine sM fun _=> ?_|(refine sC ?_ ?_<;>intro hb<;>try omega)|exact cT|fail)
      all_goals first
        |(exfalso;omega)
        |(refine ⟨(j+1,Az,cz),hjl,by dsimp only;omega,by exact sB,by exact sB,by exact mS⟩;done)
  · have e:j=yB.length:=by omega
    subst e
    rw [IX,← hpf]
    have hS:=fun (w' :World) (H:List Blk) (hm:Mem w w' H) (lv:Value) (h:Reads w' lv _ _)=>qi PZ hZ lv w' h
    repeat' (first|(apply ah (d:=103);exact rfl;exact rfl;(intro w' hm;exact hS w' _ hm _ (Reads.of_own (A:=Ao) hm pK)))|refine sT ?_|refine sS ?_|refine sT2 ?_|refine sN ?_|refine sM fun _=> ?_|(refine sC ?_ ?_<;>intro hb<;>try omega)|exact cT|fail)
    all_goals first
      |(exfalso;omega)
      |(exact bI eIO rfl rfl mS ⟨Ao,co,rfl,rfl⟩)
--
def gK (r:Rct) (L:List Rl):Int:=if bq r=false then 3 else (eX 64 L).2
theorem zW (r:Rct) (L:List Rl) (lv:Value) (w:World) (hl:Reads w lv L.length (L.flatMap bH)):ay Tryz.prog 140 [.agg (bu r).toArray,lv] w (.int .i64 (gK r L)):=by
 refine aq Tryz.func140 rfl Tryz.ntmps140 rfl ?_
 have h1:=fun w=>f9 r w
 have h2:=fun (w' :World) (H:List Blk) (hm:Mem w w' H)=>gD 64 L lv w' (hl.of_w0 hm)
 unfold gK
 repeat' (first|(apply ah;exact rfl;exact rfl;(intro w hm;exact h1 w))|(apply ah (f:=60);exact rfl;exact rfl;(intro w' hm;exact h2 w' _ hm))|refine sT ?_|refine sM fun _=> ?_|(refine sC ?_ ?_<;>intro hb<;>try omega)|fail)
 all_goals first
  |(exfalso;omega)
  |((refine rT1 ?_);rw [if_pos (jK hb)];done)
  |((refine rT1 ?_);rw [if_neg (fL hb)];done)
def ovE (r:Rct) (L:List Rl):(BitVec 64 × BitVec 64 × BitVec 64) × Int:=
 if gK r L≠0 then ((0#64,0#64,0#64),gK r L) else ((zu (fun x=>x.read) r L,zu (fun x=>x.write) r L,zu (fun x=>x.own) r L),0)
theorem zV {r:Rct} {L:List Rl} (h: ¬ gK r L≠0):bq r=true∧L≠ []∧L.length≤64:=by
 unfold gK at h
 split at h
 ·
  exact absurd (by decide) h
 ·
  rename_i hr
  refine ⟨by simpa using hr,?_⟩
  unfold eX at h
  split at h
  ·
   exact absurd (by decide) h
  ·
   rename_i h1
   have hn:L≠ []:=fun e=>h1 (.inr (.inr (.inr e)))
   split at h
   ·
    exact absurd (by decide) h
   ·
    exact ⟨hn,by omega⟩
def byN (f:Rl→BitVec 64) (L:List Rl) (p:Pz):BitVec 64:=(L[p.a]?.map f).getD 0#64
theorem sv (f:Rl→BitVec 64) (r:Rct) (L:List Rl):zu f r L=qp ((cA r L []).map (byN f L)):=rfl
set_option maxHeartbeats 16000000 in
theorem EP (r:Rct) (L:List Rl) (lv:Value) (w:World) (hl:Reads w lv L.length (L.flatMap bH)):
  ay Tryz.prog 102 [.agg (bu r).toArray,lv] w (.tuple #[.agg #[vS (ovE r L).1.1,vS (ovE r L).1.2.1,vS (ovE r L).1.2.2],.int .i64 (ovE r L).2]):=by
 refine aq Tryz.func102 rfl Tryz.ntmps102 rfl ?_
 have hck:=fun (w' :World) (H:List Blk) (hm:Mem w w' H)=>zW r L lv w' (hl.of_w0 hm)
 unfold ovE
 by_cases hc:gK r L≠0
 ·
  rw [if_pos hc]
  repeat' (first|(apply ah (f:=140);exact rfl;exact rfl;(intro w' hm;exact hck w' _ hm))|refine sT ?_|refine sT2 ?_|refine sM fun _=> ?_|(refine sC ?_ ?_<;>intro hb<;>try omega)|fail)
  all_goals first
   |(exfalso;omega)
   |((refine fW ?_);rfl)
 rw [if_neg hc]
 obtain ⟨hr,hne,hlen⟩:=zV hc
 have hP:=fun (w' :World) (H:List Blk) (hm:Mem w w' H)=>BL r hr L [] lv (.slice none 0 0) w' (hl.of_w0 hm) (bT w') (by omega) (by simp)
 have hpa: ∀ p∈cA r L [],p.a<L.length:=fun p hp=>by
  have h1:p.a∈(cA r L []).map (·.a):=Iu.2 ⟨p,hp,rfl⟩
  obtain ⟨y,x,_,h2⟩:=DV.1 h1
  rw [h2]
  exact yS hne
 have hpl:(cA r L []).length≤1000000:=by
  have h1:=iK (A:=L) (B:= []) (xs:=bC r.c1 r.c2 (aJ r L++aJ r [])) (bC r.r1 r.r2 (aI r L++aI r []))
  have h2:=eJ r.c1 r.c2 (aJ r L++aJ r [])
  have h3:=eJ r.r1 r.r2 (aI r L++aI r [])
  have h4:=cD r L
  have h5:=cD r []
  have h6:=ck r L
  have h7:=ck r []
  rw [HV] at h2 h3
  rw [JY] at h5 h7
  exact IW h1 (IW (Nat.mul_le_mul (show _≤801 by omega) (show _≤801 by omega)) (by decide))
 rw [sv,sv,sv]
 have hc0:gK r L=0:=by omega
 rw [hc0] at hck
 generalize cA r L []=PZ at hP hpa hpl ⊢
 refine aw 33 1 ?_
 refine aw 33 1 ?_
 refine aw 33 1 ?_
 repeat' (first|(apply ah (f:=140);exact rfl;exact rfl;(intro w' hm;exact hck w' _ hm))|(apply av (f:=141);exact rfl;exact rfl;(intro w' hm;exact hP w' _ hm);rintro _ _ ⟨Ap,cp,rfl,rfl⟩)|refine sT ?_|refine sS ?_|refine sT2 ?_|refine sM fun _=> ?_|(refine sC ?_ ?_<;>intro hb<;>try omega)|fail)
 all_goals try (exfalso;omega)
 rename_i g2 g4
 refine ax [1,4,22,23] rfl (fun y:Nat × (Option Nat × Nat) × (Option Nat × Nat) × (Option Nat × Nat)=> [(7,sl y.2.1.1 y.1 y.2.1.2),(8,sl y.2.2.1.1 y.1 y.2.2.1.2),(9,sl y.2.2.2.1 y.1 y.2.2.2.2),(24,.int .i64 (y.1:Int))]) (fun y=> .own y.2.1.1 33 1 y.1 y.2.1.2 (((PZ.take y.1).map (byN (fun x=>x.read) L)).map vS):: .own y.2.2.1.1 33 1 y.1 y.2.2.1.2 (((PZ.take y.1).map (byN (fun x=>x.write) L)).map vS):: .own y.2.2.2.1 33 1 y.1 y.2.2.2.2 (((PZ.take y.1).map (byN (fun x=>x.own) L)).map vS):: .own Ap 191 6 PZ.length cp (PZ.flatMap bK):: .box g4 35 [vS 0#64,vS 0#64,vS 0#64]:: []) (fun y=>y.1≤PZ.length) (fun y=>PZ.length - y.1) (0,(none,0),(none,0),(none,0)) (H5 _) sB mS ?_
 rintro ⟨i,⟨A7,c7⟩,⟨A8,c8⟩,⟨A9,c9⟩⟩ hi
 dsimp only at hi ⊢
 by_cases hlt:i<PZ.length
 ·
  refine ez (A:=Ap) pK (by omega) fun gp hAp=> ?_
  subst hAp
  have hrd:((PZ.flatMap bK).drop (0+i*6)).take 6=bK PZ[i]:=by rw [H8];exact cd bF PZ i hlt
  have hpi:=hpa _ (I7 hlt)
  have hsr: ∀ f:Rl→BitVec 64,((PZ.take (i+1)).map (byN f L)).map vS=((PZ.take i).map (byN f L)).map vS++ [vS (f (L[PZ[i].a]'hpi))]:=fun f=>by
   rw [H7 hlt,IQ,IQ]
   simp [byN,hpi]
  generalize PZ[i]=p at hrd hpi hsr
  have hl' :=hl
  obtain ⟨Al,cl,hlv,hl1,hl2,hl3⟩:=hl'
  subst hlv
  obtain ⟨gl,ol,rfl,hrl⟩:=hl3 (by omega)
  obtain ⟨_,_,_,_,hrr⟩:=Rl.ro (hrl.elem di p.a hpi)
  generalize L[p.a]'hpi=x at hrr hsr
  repeat' (first|(apply aj (d:=26);exact rfl;apply ai (j:=i);exact rfl;exact rfl;exact hlt)|(apply aj (d:=27);exact rfl;apply aR (ys:=bK p);exact rfl;exact pK;exact hrd;exact rfl)|(apply aj (d:=32);exact rfl;apply ai (j:=p.a);exact rfl;exact rfl;exact hpi)|refine sT ?_|refine sS ?_|refine sT2 ?_|refine sN ?_|refine sO ?_|refine sM fun _=> ?_|(refine sC ?_ ?_<;>intro hb<;>try omega)|fail)
  all_goals try (exfalso;omega)
  rename_i g11 g12
  refine nM (id:=9) [3,4,8,9,13,14] [.box g12 35 [vS x.read,vS x.write,vS x.own]] 18 rfl rfl mS ?_
  repeat' (first|(apply dI (i:=0);(iterate 4 exact rfl);decide+kernel;decide+kernel;decide+kernel;(exact vC))|(apply dI (i:=1);(iterate 4 exact rfl);decide+kernel;decide+kernel;decide+kernel;(exact vC))|(apply dI (i:=2);(iterate 4 exact rfl);decide+kernel;decide+kernel;decide+kernel;(exact vC))|(apply dI (i:=5);(iterate 4 exact rfl);decide+kernel;decide+kernel;decide+kernel;(exact vC))|(apply dI (i:=6);(iterate 4 exact rfl);decide+kernel;decide+kernel;decide+kernel;(exact vC))|(apply dI (i:=7);(iterate 4 exact rfl);decide+kernel;decide+kernel;decide+kernel;(exact vC))|(apply dI (i:=10);(iterate 4 exact rfl);decide+kernel;decide+kernel;decide+kernel;(exact vC))|(apply dI (i:=11);(iterate 4 exact rfl);decide+kernel;decide+kernel;decide+kernel;(exact vC))|(apply dI (i:=12);(iterate 4 exact rfl);decide+kernel;decide+kernel;decide+kernel;(exact vC))|(apply dI (i:=15);(iterate 4 exact rfl);decide+kernel;decide+kernel;decide+kernel;(apply kZ;exact rfl))|(apply dI (i:=16);(iterate 4 exact rfl);decide+kernel;decide+kernel;decide+kernel;(apply kZ;exact rfl))|(apply dI (i:=17);(iterate 4 exact rfl);decide+kernel;decide+kernel;decide+kernel;(apply kZ;exact rfl))|(apply tT (i:=3) (j:=8) (k:=13);(iterate 9 exact rfl);decide+kernel)|(apply tT (i:=4) (j:=8) (k:=13);(iterate 9 exact rfl);decide+kernel)|(apply dR (i:=3) (j:=13);(iterate 6 exact rfl);decide+kernel)|(apply dR (i:=3) (j:=8);(iterate 6 exact rfl);decide+kernel)|(apply dR (i:=8) (j:=13);(iterate 6 exact rfl);decide+kernel)|(apply dR (i:=4) (j:=13);(iterate 6 exact rfl);decide+kernel)|(apply dR (i:=4) (j:=8);(iterate 6 exact rfl);decide+kernel)|(apply dR (i:=9) (j:=13);(iterate 6 exact rfl);decide+kernel)|(apply bM (i:=3);(iterate 3 exact rfl);decide+kernel)|(apply bM (i:=4);(iterate 3 exact rfl);decide+kernel)|(apply bM (i:=8);(iterate 3 exact rfl);decide+kernel)|(apply bM (i:=9);(iterate 3 exact rfl);decide+kernel)|(apply bM (i:=13);(iterate 3 exact rfl);decide+kernel)|(apply bM (i:=14);(iterate 3 exact rfl);decide+kernel)|(apply aV (d:=39) (A:=A7) (m:=1);(iterate 3 exact rfl);exact pK;(intro w hm;exact hm.cells_own pK);exact rfl;(simp [Value.oneCell',sl]);omega;(simp only [maxLen];omega);(intro B7 b7 hB7))|(apply aV (d:=44) (A:=A8) (m:=1);(iterate 3 exact rfl);exact pK;(intro w hm;exact hm.cells_own pK);exact rfl;(simp [Value.oneCell',sl]);omega;(simp only [maxLen];omega);(intro B8 b8 hB8))|(apply aV (d:=49) (A:=A9) (m:=1);(iterate 3 exact rfl);exact pK;(intro w hm;exact hm.cells_own pK);exact rfl;(simp [Value.oneCell',sl]);omega;(simp only [maxLen];omega);(intro B9 b9 hB9))|(apply nK;decide+kernel)|(apply CR;(focus (exact mS;done)))|refine sT ?_|refine sS ?_|refine sT2 ?_|refine sN ?_|refine sM fun _=> ?_|(refine sC ?_ ?_<;>intro hb<;>try omega)|fail)
  all_goals first
   |(exfalso;omega)
   |(refine ⟨(i+1,(B7,b7),(B8,b8),(B9,b9)),hlt,by dsimp only;omega,by exact sB,by exact sB,?_⟩;dsimp only;rw [hsr,hsr,hsr];exact mS)
 ·
  have e:i=PZ.length:=by omega
  subst e
  rw [IX]
  have hM:=fun (f:Rl→BitVec 64) (w' :World) (lv:Value) (h:Reads w' lv PZ.length ((PZ.map (byN f L)).map vS))=>Ah (PZ.map (byN f L)) lv w' (by rw [IJ];exact h)
  repeat' (first|(apply ah (d:=52);exact rfl;exact rfl;(intro w' hm;exact hM (fun x=>x.read) w' _ (Reads.of_own (A:=A7) hm pK)))|(apply ah (d:=54);exact rfl;exact rfl;(intro w' hm;exact hM (fun x=>x.write) w' _ (Reads.of_own (A:=A8) hm pK)))|(apply ah (d:=56);exact rfl;exact rfl;(intro w' hm;exact hM (fun x=>x.own) w' _ (Reads.of_own (A:=A9) hm pK)))|refine sT ?_|refine sS ?_|refine sT2 ?_|refine sM fun _=> ?_|(refine sC ?_ ?_<;>intro hb<;>try omega)|fail)
  all_goals first
   |(exfalso;omega)
   |((refine fW ?_);rfl)
end Go.SL
namespace Go.SL
open Go
def tA (lo hi:Int) (ps:List (Int × Int)):List (Int × Int):=bZ ((dE (nO (bJ lo ps))).filter fun x=>decide (lo≤x) && decide (x≤hi)) hi
theorem zZ:bC=tA:=by funext lo hi ps;unfold bC tA pV;rw [Bu]
def wW (r:Rct) (A B:List Rl):List Pz:=(tA r.r1 r.r2 (aI r A++aI r B)).flatMap fun y=>fK A B y (tA r.c1 r.c2 (aJ r A++aJ r B))
theorem zq:cA=wW:=by funext r A B;unfold cA wW;rw [zZ]
def uL (f:Rl→BitVec 64) (r:Rct) (L:List Rl):BitVec 64:=qp ((wW r L []).map fun p=>(L[p.a]?.map f).getD 0#64)
theorem BO:zu=uL:=by funext f r L;unfold zu uL;rw [zq]
def ovC (r:Rct) (L:List Rl):(BitVec 64 × BitVec 64 × BitVec 64) × Int:=
 if gK r L≠0 then ((0#64,0#64,0#64),gK r L) else ((uL (fun x=>x.read) r L,uL (fun x=>x.write) r L,uL (fun x=>x.own) r L),0)
theorem FX:ovE=ovC:=by funext r L;unfold ovE ovC;rw [BO]
def DU (fn:Int) (r:Rct) (L:List Rl) (g:Gn):Bool:=decide (g.rect=r) && (jk g.fns fn && (!g.rev && lC (ovC g.rect L).1.2.2 g.by_))
def bkR:List Rl:= [⟨⟨1,1,1024,1024⟩,7#64,7#64,1#64⟩,⟨⟨2,1,2,3⟩,1#64,1#64,1#64⟩]
def bkN:List Gn:= [⟨⟨2,1,2,3⟩,1,2#64,0,false⟩]
set_option maxRecDepth 100000
end Go.SL
namespace Go.SL
open Go Go.Proofs
attribute [local irreducible] W WL WQ WG WA WX WLI WR WT WC WE VOp RW thn blk bo scp aN bf bi aF FnIn FnP ceP lO gA je
def j6:List Et:= [⟨⟨1,1⟩,⟨#[53]⟩⟩,⟨⟨2,1⟩,⟨#[49,48]⟩⟩,⟨⟨1,2⟩,inB⟩,⟨⟨2,2⟩,⟨#[50,48]⟩⟩,⟨⟨1,3⟩,inC⟩,⟨⟨1,4⟩,inD⟩]
theorem CC:nD j6=(some exG,0):=by decide+kernel
theorem wJ (w:World):ay Tryz.prog 84 [] w (.agg (bu ⟨1,1,1024,1024⟩).toArray):=by
 refine aq Tryz.func84 rfl Tryz.ntmps84 rfl ?_
 repeat' (first|refine sT ?_|refine sM fun _=> ?_|(refine sC ?_ ?_<;>intro hb<;>try omega)|fail)
 (refine eRC ?_)
 rfl
set_option maxHeartbeats 4000000 in
theorem Aq (w:World):aF Tryz.prog 116 [] w fun v H=> ∃ ge gr gn,v= .tuple #[.slice (some ⟨ge,0,none⟩) 6 6,.slice (some ⟨gr,0,none⟩) 2 2,.slice (some ⟨gn,0,none⟩) 1 1]∧H= [.own (some ge) 52 3 6 6 (j6.flatMap cW),.own (some gr) 54 7 2 2 (bkR.flatMap bH),.own (some gn) 56 8 1 1 (bkN.flatMap bB)]:=by
 refine aq Tryz.func116 rfl Tryz.ntmps116 rfl ?_
 repeat' (first|(apply jc (id:=3) [0,6] [];kernel_rfl;kernel_rfl;kernel_rfl)|(apply jc (id:=4) [4] [];kernel_rfl;kernel_rfl;kernel_rfl)|(apply ah (f:=84);exact rfl;exact rfl;(intro w' _;exact wJ w'))|refine sT ?_|refine sS ?_|refine sW ?_|refine sM fun _=> ?_|(refine sC ?_ ?_<;>intro hb<;>try omega)|(refine sCW ?_ ?_<;>intro hb<;>try omega)|fail)
 rename_i ge gr gn
 exact wM eIO rfl rfl rfl rfl (H' := [.own (some ge) 52 3 6 6 (j6.flatMap cW),.own (some gr) 54 7 2 2 (bkR.flatMap bH),.own (some gn) 56 8 1 1 (bkN.flatMap bB)]) mS ⟨ge,gr,gn,rfl,rfl⟩
theorem pS (L:List Gn): ∀ u∈L.flatMap bB,u.oneCell' =true:=fun u hu=>by
 obtain ⟨a,_,h⟩:=I6.1 hu
 simp only [bB,Ie,JM,or_false] at h
 rcases h with rfl|rfl|rfl|rfl|rfl|rfl|rfl|rfl<;>rfl
theorem qq (L:List Gn) (tv:Value) (w:World) (ht:Reads w tv L.length (L.flatMap bB)) (hlen:L.length≤1000000):
  aF Tryz.prog 37 [tv] w fun v H=> ∃ A cap,v=sl A L.length cap∧H= [.own A 56 8 L.length cap (L.flatMap bB)]:=by
 refine aq Tryz.func37 rfl Tryz.ntmps37 rfl ?_
 have hl:(L.flatMap bB).length=L.length*8:=aC il L
 refine aw 56 8 ?_
 repeat' (first|(apply bp (n' :=0) (c:=0) (A:=none) (m:=L.length);(iterate 3 exact rfl);exact pK;(intro w hm;exact ht.of_w0 hm);exact hl;exact pS L;omega;(simp only [maxLen];omega);intro A' cap' hA)|refine sT ?_|refine sM fun _=> ?_|(refine sC ?_ ?_<;>intro hb<;>try omega)|fail)
 exact bI (.inl rfl) Tryz.results37 rfl (H' := [.own A' 56 8 (0+L.length) cap' ([]++L.flatMap bB)]) mS ⟨A',cap',by rw [H8],by rw [H8];rfl⟩
end Go.SL
namespace Go.SL
open Go Go.Proofs
attribute [local irreducible] W WL WQ WG WA WX WLI WR WT WC WE VOp RW thn blk bo scp aN bf bi aF FnIn FnP ceP lO gA je
def uW (g:Gn) (L:List Rl):Bool:= !g.rev && lC (ovE g.rect L).1.2.2 g.by_
theorem D7 (g:Gn) (L:List Rl) (lv:Value) (w:World) (hl:Reads w lv L.length (L.flatMap bH)):ay Tryz.prog 206 [.agg (bB g).toArray,lv] w (.bool (uW g L)):=by
 refine aq Tryz.func206 rfl Tryz.ntmps206 rfl ?_
 have h1:=fun (w' :World) (H:List Blk) (hm:Mem w w' H)=>EP g.rect L lv w' (hl.of_w0 hm)
 have h2:=fun w=>lT (ovE g.rect L).1.2.2 g.by_ w
 unfold uW
 generalize (ovE g.rect L).2=e at h1
 generalize (ovE g.rect L).1.1=s1 at h1
 generalize (ovE g.rect L).1.2.1=s2 at h1
 generalize (ovE g.rect L).1.2.2=s3 at h1 h2 ⊢
 generalize lC s3 g.by_=b at h2
 repeat' (first|(apply ah (f:=102);exact rfl;exact rfl;(intro w' hm;exact h1 w' _ hm))|(apply ah;exact rfl;exact rfl;(intro w hm;exact h2 w))|refine sT ?_|refine sM fun _=> ?_|(refine sC ?_ ?_<;>intro hb<;>try omega)|fail)
 all_goals first
  |(exfalso;omega)
  |((refine rT1 ?_);rw [hb];rfl)
def qU (fn:Int) (r:Rct) (L:List Rl) (g:Gn):Bool:=decide (g.rect=r) && (jk g.fns fn && uW g L)
def bQ (fn:Int) (r:Rct) (L:List Rl):List Gn→Nat→List (Nat × Gn)
 | [],_=> []
 |g::G,i=>bif qU fn r L g then (i,g)::bQ fn r L G (i+1) else bQ fn r L G (i+1)
def Fe (x:Nat × Gn):List Value:= [.int .i64 (x.1:Int),.agg (bB x.2).toArray]
theorem jh (fn:Int) (r:Rct) (L:List Rl): ∀ (G:List Gn) (i:Nat),(bQ fn r L G i).length≤G.length
 | [],_=>Ih _
 |g::G,i=>by
  have:=jh fn r L G (i+1)
  rw [bQ]
  cases qU fn r L g<;>simp<;>omega
set_option maxHeartbeats 8000000 in
theorem DS (fn:Int) (r:Rct) (L:List Rl) (G:List Gn) (gv lv:Value) (w0:World) (hg:Reads w0 gv G.length (G.flatMap bB)) (hl:Reads w0 lv L.length (L.flatMap bH)) (hn:G.length≤1000000) (gg gr gf gl:Nat):
  EN Tryz.prog 204 [.pointer (some ⟨gg,0,none⟩),.pointer (some ⟨gr,0,none⟩),.pointer (some ⟨gf,0,none⟩),.pointer (some ⟨gl,0,none⟩)] w0
   [.box gg 24 [gv],.box gr 32 (bu r),.box gf 5 [.int .u8 fn],.box gl 23 [lv]] (bQ fn r L G 0) Fe:=by
 obtain ⟨Ag,cg,rfl,hg1,hg2,hg3⟩:=hg
 intro l I J H0 hy h0
 refine FnIn.msub (H' := [.box gg 24 [.slice Ag G.length cg],.box gr 32 (bu r),.box gf 5 [.int .u8 fn],.box gl 23 [lv]]++H0) ?_ (MSub.appC H0 [] _)
 refine fc Tryz.func204 rfl Tryz.ntmps204 rfl ?_
 repeat' (first|refine sT ?_|refine sS ?_|refine sM fun _=> ?_|(refine sC ?_ ?_<;>intro hb<;>try omega)|fail)
 refine ax [0,1,2,3,4,8,9] rfl (fun y:Nat × List (Nat × Gn) × List Blk=> [(10,.int .i64 (y.1:Int))]) (fun y=> [.box gg 24 [.slice Ag G.length cg],.box gr 32 (bu r),.box gf 5 [.int .u8 fn],.box gl 23 [lv]]++y.2.2) (fun y=>y.1≤G.length∧bQ fn r L G 0=y.2.1++bQ fn r L (G.drop y.1) y.1∧I y.2.1 y.2.2) (fun y=>G.length - y.1) (0,[],H0) ⟨H5 _,rfl,h0⟩ sB (by exact MSub.refl _) ?_
 rintro ⟨i,pre,H1⟩ ⟨hi,hus,hI⟩
 dsimp only at hi hus hI ⊢
 simp only [HW,HZ]
 by_cases hlt:i<G.length
 ·
  obtain ⟨ga,oa,rfl,hrl⟩:=hg3 (by omega)
  have he:=hrl.elem il i hlt
  rw [H6 hlt,bQ] at hus
  generalize G[i]=g at hus he
  have hN:=fun w=>CY g.fns fn w
  have hL:=fun (w' :World) (H:List Blk) (hm:Mem w0 w' H)=>D7 g L lv w' (hl.of_w0 hm)
  unfold qU at hus
  obtain ⟨c1,hc1⟩: ∃ c,decide (g.rect=r)=c:=⟨_,rfl⟩
  rw [hc1] at hus
  generalize jk g.fns fn=c2 at hN hus
  generalize uW g L=c3 at hL hus
  repeat' (first|(apply gO (id:=3))|(apply AE (d:=18);exact rfl;exact rfl;apply qG hc1;exact rfl;exact rfl)|(apply od;exact rfl;exact rfl)|(apply rH;(iterate 4 exact rfl))|(apply wn<;>first|exact rfl|(intro hb;replace hb:=Tidy.out hb;try (exfalso;omega)))|(apply qu (f:=205);(iterate 3 exact rfl);(intro w' hm;exact hN w'))|(apply qu (f:=206);(iterate 3 exact rfl);(intro w' hm;exact hL w' _ hm))|refine sT ?_|refine sS ?_|refine sI ?_|refine sN ?_|refine sO ?_|refine sM fun _=> ?_|(refine sC ?_ ?_<;>intro hb<;>try omega)|fail)
  ·
   have hus2:bQ fn r L G 0=pre++(i,g)::bQ fn r L (G.drop (i+1)) (i+1):=by rw [hus];simp [*]
   rename_i g7 _ _
   (with_reducible apply fF)
   ·
    exact rfl
   ·
    exact rfl
   ·
    exact rfl
   ·
    exact MSub.appC [.box g7 56 (bB g)] [.box gg 24 [.slice (some ⟨ga,oa,none⟩) G.length cg],.box gr 32 (bu r),.box gf 5 [.int .u8 fn],.box gl 23 [lv]] H1
   ·
    exact fun w hm=>hy pre (i,g) _ hus2 H1 _ hI w hm
   intro bb H3 hq
   cases bb
   ·
    repeat' (first|(apply od;exact rfl;exact rfl)|(apply rH;(iterate 4 exact rfl))|refine sT ?_|refine sS ?_|refine sI ?_|refine sM fun _=> ?_|(refine sC ?_ ?_<;>intro hb<;>try omega)|fail)
    exact eT eIO rfl (MSub.appE [.box g7 56 (bB g)] [.box gg 24 [.slice (some ⟨ga,oa,none⟩) G.length cg],.box gr 32 (bu r),.box gf 5 [.int .u8 fn],.box gl 23 [lv]] H3) ⟨H3,.inr ⟨_,hq⟩,MSub.refl _⟩
   ·
    repeat' (first|(apply od;exact rfl;exact rfl)|(apply rH;(iterate 4 exact rfl))|refine sT ?_|refine sS ?_|refine sI ?_|refine sN ?_|refine sM fun _=> ?_|(refine sC ?_ ?_<;>intro hb<;>try omega)|fail)
    refine ⟨(i+1,_,H3),⟨hlt,hus2.trans (by rw [List.append_assoc];rfl),hq⟩,(by dsimp only;omega),sB,sB,?_⟩
    dsimp only
    exact MSub.trans (MSub.drop .hd (MSub.refl _)) (MSub.appD [.box g7 56 (bB g)] [.box gg 24 [.slice (some ⟨ga,oa,none⟩) G.length cg],.box gr 32 (bu r),.box gf 5 [.int .u8 fn],.box gl 23 [lv]] H3)
  all_goals
   refine ⟨(i+1,pre,H1),⟨hlt,by rw [hus];simp [*],hI⟩,(by dsimp only;omega),sB,sB,?_⟩
   exact MSub.drop .hd (MSub.refl _)
 ·
  have e:i=G.length:=by omega
  subst e
  rw [I3,bQ,Ig] at hus
  repeat' (first|refine sT ?_|refine sS ?_|refine sM fun _=> ?_|(refine sC ?_ ?_<;>intro hb<;>try omega)|fail)
  exact eT eIO rfl (.refl _) ⟨H1,.inl (hus ▸ hI),MSub.appS [.box gg 24 [.slice Ag G.length cg],.box gr 32 (bu r),.box gf 5 [.int .u8 fn],.box gl 23 [lv]] H1⟩
end Go.SL
namespace Go.SL
open Go Go.Proofs
attribute [local irreducible] W WL WQ WG WA WX WLI WR WT WC WE VOp RW thn blk bo scp aN bf bi aF FnIn FnP ceP
theorem xM (L:List Et) (tv:Value) (w:World) (ht:Reads w tv L.length (L.flatMap cW)) (hlen:L.length≤1000000):
  aF Tryz.prog 74 [tv] w fun v H=> ∃ A cap,v=sl A L.length cap∧H= [.own A 52 3 L.length cap (L.flatMap cW)]:=by
 have ht' :=ht
 obtain ⟨At,ct,rfl,ht1,ht2,ht3⟩:=ht
 refine aq Tryz.func74 rfl Tryz.ntmps74 rfl ?_
 have hl:(L.flatMap cW).length=L.length*3:=aC iw L
 refine aw 52 3 ?_
 repeat' (first|(apply aj;exact rfl;apply gQ;exact rfl)|(apply bW;exact rfl;intro gb)|(apply bp (n' :=0) (c:=0) (A:=some _) (m:=L.length);(iterate 3 exact rfl);exact pK;(intro w hm;exact ht'.of_w0 hm);exact hl;exact pU L;omega;(simp only [maxLen];omega);intro A' cap' hA)|refine sT ?_|refine sM fun _=> ?_|(refine sC ?_ ?_<;>intro hb<;>try omega)|fail)
 ·
  have e:L.length=0:=by
   rcases Jf L.length with h|h
   ·
    exact h
   ·
    obtain ⟨g,o,rfl,_⟩:=ht3 h
    cases hb
  have e' :L= []:=I8 e
  subst e'
  exact bI (.inl rfl) Tryz.results74 rfl (.refl _) ⟨none,0,rfl,rfl⟩
 ·
  exact bI (.inl rfl) Tryz.results74 rfl (H' := [.own A' 52 3 (0+L.length) cap' ([]++L.flatMap cW)]) mS ⟨A',cap',by rw [H8],by rw [H8];rfl⟩
theorem xJ (L:List Rl) (tv:Value) (w:World) (ht:Reads w tv L.length (L.flatMap bH)) (hlen:L.length≤1000000):
  aF Tryz.prog 75 [tv] w fun v H=> ∃ A cap,v=sl A L.length cap∧H= [.own A 54 7 L.length cap (L.flatMap bH)]:=by
 have ht' :=ht
 obtain ⟨At,ct,rfl,ht1,ht2,ht3⟩:=ht
 refine aq Tryz.func75 rfl Tryz.ntmps75 rfl ?_
 have hl:(L.flatMap bH).length=L.length*7:=aC di L
 refine aw 54 7 ?_
 repeat' (first|(apply aj;exact rfl;apply gQ;exact rfl)|(apply bW;exact rfl;intro gb)|(apply bp (n' :=0) (c:=0) (A:=some _) (m:=L.length);(iterate 3 exact rfl);exact pK;(intro w hm;exact ht'.of_w0 hm);exact hl;exact pR L;omega;(simp only [maxLen];omega);intro A' cap' hA)|refine sT ?_|refine sM fun _=> ?_|(refine sC ?_ ?_<;>intro hb<;>try omega)|fail)
 ·
  have e:L.length=0:=by
   rcases Jf L.length with h|h
   ·
    exact h
   ·
    obtain ⟨g,o,rfl,_⟩:=ht3 h
    cases hb
  have e' :L= []:=I8 e
  subst e'
  exact bI (.inl rfl) Tryz.results75 rfl (.refl _) ⟨none,0,rfl,rfl⟩
 ·
  exact bI (.inl rfl) Tryz.results75 rfl (H' := [.own A' 54 7 (0+L.length) cap' ([]++L.flatMap bH)]) mS ⟨A',cap',by rw [H8],by rw [H8];rfl⟩
theorem xK (L:List Gn) (tv:Value) (w:World) (ht:Reads w tv L.length (L.flatMap bB)) (hlen:L.length≤1000000):
  aF Tryz.prog 76 [tv] w fun v H=> ∃ A cap,v=sl A L.length cap∧H= [.own A 56 8 L.length cap (L.flatMap bB)]:=by
 have ht' :=ht
 obtain ⟨At,ct,rfl,ht1,ht2,ht3⟩:=ht
 refine aq Tryz.func76 rfl Tryz.ntmps76 rfl ?_
 have hl:(L.flatMap bB).length=L.length*8:=aC il L
 refine aw 56 8 ?_
 repeat' (first|(apply aj;exact rfl;apply gQ;exact rfl)|(apply bW;exact rfl;intro gb)|(apply bp (n' :=0) (c:=0) (A:=some _) (m:=L.length);(iterate 3 exact rfl);exact pK;(intro w hm;exact ht'.of_w0 hm);exact hl;exact pS L;omega;(simp only [maxLen];omega);intro A' cap' hA)|refine sT ?_|refine sM fun _=> ?_|(refine sC ?_ ?_<;>intro hb<;>try omega)|fail)
 ·
  have e:L.length=0:=by
   rcases Jf L.length with h|h
   ·
    exact h
   ·
    obtain ⟨g,o,rfl,_⟩:=ht3 h
    cases hb
  have e' :L= []:=I8 e
  subst e'
  exact bI (.inl rfl) Tryz.results76 rfl (.refl _) ⟨none,0,rfl,rfl⟩
 ·
  exact bI (.inl rfl) Tryz.results76 rfl (H' := [.own A' 56 8 (0+L.length) cap' ([]++L.flatMap bB)]) mS ⟨A',cap',by rw [H8],by rw [H8];rfl⟩
theorem xL (L:List Ev) (tv:Value) (w:World) (ht:Reads w tv L.length (L.flatMap ed)) (hlen:L.length≤1000000):
  aF Tryz.prog 77 [tv] w fun v H=> ∃ A cap,v=sl A L.length cap∧H= [.own A 58 9 L.length cap (L.flatMap ed)]:=by
 have ht' :=ht
 obtain ⟨At,ct,rfl,ht1,ht2,ht3⟩:=ht
 refine aq Tryz.func77 rfl Tryz.ntmps77 rfl ?_
 have hl:(L.flatMap ed).length=L.length*9:=aC jR L
 refine aw 58 9 ?_
 repeat' (first|(apply aj;exact rfl;apply gQ;exact rfl)|(apply bW;exact rfl;intro gb)|(apply bp (n' :=0) (c:=0) (A:=some _) (m:=L.length);(iterate 3 exact rfl);exact pK;(intro w hm;exact ht'.of_w0 hm);exact hl;exact pT L;omega;(simp only [maxLen];omega);intro A' cap' hA)|refine sT ?_|refine sM fun _=> ?_|(refine sC ?_ ?_<;>intro hb<;>try omega)|fail)
 ·
  have e:L.length=0:=by
   rcases Jf L.length with h|h
   ·
    exact h
   ·
    obtain ⟨g,o,rfl,_⟩:=ht3 h
    cases hb
  have e' :L= []:=I8 e
  subst e'
  exact bI (.inl rfl) Tryz.results77 rfl (.refl _) ⟨none,0,rfl,rfl⟩
 ·
  exact bI (.inl rfl) Tryz.results77 rfl (H' := [.own A' 58 9 (0+L.length) cap' ([]++L.flatMap ed)]) mS ⟨A',cap',by rw [H8],by rw [H8];rfl⟩
theorem xI (L:List Rv) (tv:Value) (w:World) (ht:Reads w tv L.length (L.flatMap aH)) (hlen:L.length≤100000000):
  aF Tryz.prog 78 [tv] w fun v H=> ∃ A cap,v=sl A L.length cap∧H= [.own A 62 11 L.length cap (L.flatMap aH)]:=by
 have ht' :=ht
 obtain ⟨At,ct,rfl,ht1,ht2,ht3⟩:=ht
 refine aq Tryz.func78 rfl Tryz.ntmps78 rfl ?_
 have hl:(L.flatMap aH).length=L.length*11:=aC cf L
 refine aw 62 11 ?_
 repeat' (first|(apply aj;exact rfl;apply gQ;exact rfl)|(apply bW;exact rfl;intro gb)|(apply bp (n' :=0) (c:=0) (A:=some _) (m:=L.length);(iterate 3 exact rfl);exact pK;(intro w hm;exact ht'.of_w0 hm);exact hl;exact kP L;omega;(simp only [maxLen];omega);intro A' cap' hA)|refine sT ?_|refine sM fun _=> ?_|(refine sC ?_ ?_<;>intro hb<;>try omega)|fail)
 ·
  have e:L.length=0:=by
   rcases Jf L.length with h|h
   ·
    exact h
   ·
    obtain ⟨g,o,rfl,_⟩:=ht3 h
    cases hb
  have e' :L= []:=I8 e
  subst e'
  exact bI (.inl rfl) Tryz.results78 rfl (.refl _) ⟨none,0,rfl,rfl⟩
 ·
  exact bI (.inl rfl) Tryz.results78 rfl (H' := [.own A' 62 11 (0+L.length) cap' ([]++L.flatMap aH)]) mS ⟨A',cap',by rw [H8],by rw [H8];rfl⟩
structure Bo where
 e:Option Nat
 r:Option Nat
 g:Option Nat
 l:Option Nat
 s:Option Nat
 ce:Nat
 cr:Nat
 cg:Nat
 cl:Nat
 cs:Nat
def adr (A:Option Nat):Option Addr:=A.map fun g=>⟨g,0,none⟩
def Bo.v (a:Bo):Bv:=⟨adr a.e,adr a.r,adr a.g,adr a.l,adr a.s,a.ce,a.cr,a.cg,a.cl,a.cs⟩
def aG (b:Bk) (a:Bo):List Blk:= [.own a.e 52 3 b.ents.length a.ce (b.ents.flatMap cW),.own a.r 54 7 b.rules.length a.cr (b.rules.flatMap bH),.own a.g 56 8 b.grants.length a.cg (b.grants.flatMap bB),.own a.l 58 9 b.log.length a.cl (b.log.flatMap ed),.own a.s 62 11 b.rels.length a.cs (b.rels.flatMap aH)]
theorem BRd.of_rows {w0 w:World} {H:List Blk} {b:Bk} {a:Bo} (hm:Mem w0 w H) (h1:In (.own a.e 52 3 b.ents.length a.ce (b.ents.flatMap cW)) H) (h2:In (.own a.r 54 7 b.rules.length a.cr (b.rules.flatMap bH)) H) (h3:In (.own a.g 56 8 b.grants.length a.cg (b.grants.flatMap bB)) H) (h4:In (.own a.l 58 9 b.log.length a.cl (b.log.flatMap ed)) H) (h5:In (.own a.s 62 11 b.rels.length a.cs (b.rels.flatMap aH)) H):BRd w b a.v:=
 ⟨Reads.of_own (A:=a.e) hm h1,Reads.of_own (A:=a.r) hm h2,Reads.of_own (A:=a.g) hm h3,Reads.of_own (A:=a.l) hm h4,Reads.of_own (A:=a.s) hm h5⟩
structure Small (b:Bk):Prop where
 e:b.ents.length≤1000000
 r:b.rules.length≤1000000
 g:b.grants.length≤1000000
 l:b.log.length≤1000000
 s:b.rels.length≤100000000
set_option maxHeartbeats 4000000 in
theorem zY (b:Bk) (x:Bv) (w:World) (h:BRd w b x) (hs:Small b):aF Tryz.prog 20 [.agg (bn b x).toArray] w fun v H=> ∃ a:Bo,v= .agg (bn b a.v).toArray∧H=aG b a:=by
 refine aq Tryz.func20 rfl Tryz.ntmps20 rfl ?_
 have h1:=fun (w' :World) (H:List Blk) (hm:Mem w w' H)=>xM b.ents _ w' (h.e.of_w0 hm) hs.e
 have h2:=fun (w' :World) (H:List Blk) (hm:Mem w w' H)=>xJ b.rules _ w' (h.r.of_w0 hm) hs.r
 have h3:=fun (w' :World) (H:List Blk) (hm:Mem w w' H)=>xK b.grants _ w' (h.g.of_w0 hm) hs.g
 have h4:=fun (w' :World) (H:List Blk) (hm:Mem w w' H)=>xL b.log _ w' (h.l.of_w0 hm) hs.l
 have h5:=fun (w' :World) (H:List Blk) (hm:Mem w w' H)=>xI b.rels _ w' (h.s.of_w0 hm) hs.s
 repeat' (first|(apply av (f:=74);exact rfl;exact rfl;(intro w' hm;exact h1 w' _ hm);rintro _ _ ⟨A1,c1,rfl,rfl⟩)|(apply av (f:=75);exact rfl;exact rfl;(intro w' hm;exact h2 w' _ hm);rintro _ _ ⟨A2,c2,rfl,rfl⟩)|(apply av (f:=76);exact rfl;exact rfl;(intro w' hm;exact h3 w' _ hm);rintro _ _ ⟨A3,c3,rfl,rfl⟩)|(apply av (f:=77);exact rfl;exact rfl;(intro w' hm;exact h4 w' _ hm);rintro _ _ ⟨A4,c4,rfl,rfl⟩)|(apply av (f:=78);exact rfl;exact rfl;(intro w' hm;exact h5 w' _ hm);rintro _ _ ⟨A5,c5,rfl,rfl⟩)|refine sT ?_|refine sS ?_|refine sM fun _=> ?_|(refine sC ?_ ?_<;>intro hb<;>try omega)|fail)
 exact sq (.inl rfl) rfl rfl pK rfl (H' :=aG b ⟨A1,A2,A3,A4,A5,c1,c2,c3,c4,c5⟩) (by unfold aG;exact mS) ⟨⟨A1,A2,A3,A4,A5,c1,c2,c3,c4,c5⟩,rfl,rfl⟩
end Go.SL
namespace Go.SL
open Go Go.Proofs
attribute [local irreducible] W WL WQ WG WA WX WLI WR WT WC WE VOp RW thn blk bo scp aN bf bi aF FnIn FnP ceP lO gA je
def orS (l:List (BitVec 64)):BitVec 64:=l.foldl (· ||| ·) 0#64
theorem BQ {l:List (BitVec 64)} {x:BitVec 64}:orS (l++ [x])=orS l|||x:=by unfold orS;rw [J1];rfl
def iX (fn:Int) (r:Rct) (L:List Rl) (G:List Gn):BitVec 64 × List Nat × Int:=
 if fn<46∨50<fn then (0#64,[],2) else if eZ r≠0 then (0#64,[],3) else if (eX 64 L).2≠0 then (0#64,[],(eX 64 L).2) else if (lF 64 G).2≠0 then (0#64,[],(lF 64 G).2)
 else (orS ((bQ fn r L G 0).map fun x=>x.2.to),(bQ fn r L G 0).map fun x=>x.1,0)
theorem sr (fn:Int) (r:Rct) (lv gv:Value) (w:World) {m1 m2:Nat} {x1 x2:List Value} (hl:Reads w lv m1 x1) (hg:Reads w gv m2 x2):aF Tryz.prog 158 [.int .u8 fn,.agg (bu r).toArray,lv,gv] w fun v H=> ∃ gg gr gf gl,v= .func (.func 204) #[] #[.pointer (some ⟨gg,0,none⟩),.pointer (some ⟨gr,0,none⟩),.pointer (some ⟨gf,0,none⟩),.pointer (some ⟨gl,0,none⟩)]∧H= [.box gg 24 [gv],.box gr 32 (bu r),.box gf 5 [.int .u8 fn],.box gl 23 [lv]]:=by
 obtain ⟨Al,cl,rfl,_⟩:=hl
 obtain ⟨Ag,cg,rfl,_⟩:=hg
 refine aq Tryz.func158 rfl Tryz.ntmps158 rfl ?_
 repeat' (first|refine sT ?_|refine sM fun _=> ?_|(refine sC ?_ ?_<;>intro hb<;>try omega)|fail)
 rename_i gf gr gl gg
 exact bI eIO rfl rfl (H' := [.box gg 24 [_],.box gr 32 (bu r),.box gf 5 [.int .u8 fn],.box gl 23 [_]]) mS ⟨gg,gr,gf,gl,rfl,rfl⟩
set_option maxHeartbeats 8000000 in
theorem Gt (fn:Int) (r:Rct) (L:List Rl) (G:List Gn) (lv gv:Value) (w:World) (hl:Reads w lv L.length (L.flatMap bH)) (hg:Reads w gv G.length (G.flatMap bB)) (hn:G.length≤1000000):
    aF Tryz.prog 126 [.int .u8 fn,.agg (bu r).toArray,lv,gv] w fun v H=> ∃ A cap,v= .tuple #[vS (iX fn r L G).1,sl A (iX fn r L G).2.1.length cap,.int .i64 (iX fn r L G).2.2]∧H= [.own A 3 1 (iX fn r L G).2.1.length cap (dY (iX fn r L G).2.1)]:=by
  refine ju Tryz.func126 rfl Tryz.ntmps126 (by rfl) ?_
  have h1:=fun w=>f9 r w
  have h2:=fun (w' :World) (H:List Blk) (hm:Mem w w' H)=>gD 64 L lv w' (hl.of_w0 hm)
  have h3:=fun (w' :World) (H:List Blk) (hm:Mem w w' H)=>m3 64 G gv w' (hg.of_w0 hm)
  have h4:=fun (w' :World) (H:List Blk) (hm:Mem w w' H)=>sr fn r lv gv w' (hl.of_w0 hm) (hg.of_w0 hm)
  have h5:=fun gg gr gf gl=>DS fn r L G gv lv w hg hl hn gg gr gf gl
  have hrl:=jh fn r L G 0
  unfold iX
  generalize eZ r=e1 at h1
  generalize (eX 64 L).2=e2 at h2
  generalize (lF 64 G).2=e3 at h3
  generalize bQ fn r L G 0=us at h5 hrl
  refine kT ?_
  refine aw 3 1 ?_
  repeat' (first|(apply ah;exact rfl;exact rfl;(intro w hm;exact h1 w))|(apply ah (f:=60);exact rfl;exact rfl;(intro w' hm;exact h2 w' _ hm))|(apply ah (f:=61);exact rfl;exact rfl;(intro w' hm;exact h3 w' _ hm))|(apply av (f:=158);exact rfl;exact rfl;(intro w' hm;exact h4 w' _ hm);rintro _ _ ⟨gg,gr,gf,gl,rfl,rfl⟩)|refine sT ?_|refine sS ?_|refine sR ?_|refine sM fun _=> ?_|(refine sC ?_ ?_<;>intro hb<;>try omega)|(refine sCR ?_ ?_<;>intro hb<;>try omega)|fail)
  all_goals first
    |(exfalso;omega)
    | (refine yA ?_
       exact BI eIO rfl rfl pK rfl pK rfl (H' := [.own none 3 1 0 0 []]) mS ⟨none,0,by first|(rw [if_pos (by omega)];exact ⟨rfl,rfl⟩)|(rw [if_neg (by omega),if_pos hb];exact ⟨rfl,rfl⟩)|(rw [if_neg (by omega),if_neg (by omega),if_pos hb];exact ⟨rfl,rfl⟩)|(rw [if_neg (by omega),if_neg (by omega),if_neg (by omega),if_pos hb];exact ⟨rfl,rfl⟩)⟩)
    |skip
  rename_i g5 g8 g9 k1 k2 k3 k4
  rw [if_neg (by omega),if_neg (by omega),if_neg (by omega),if_neg (by omega)]
  refine nX (ps:= [47,48]) (us:=us) (encs:=Fe) (Hc:= [.box gg 24 [gv],.box gr 32 (bu r),.box gf 5 [.int .u8 fn],.box gl 23 [lv]]) (HU0:= [.box g8 33 [vS 0#64],.box g9 75 [.slice none 0 0],.own none 3 1 0 0 []]) rfl (fun _=>rfl) rfl (h5 gg gr gf gl)
    (fun pre HU=> ∃ A cap,HU= [.box g8 33 [vS (orS (pre.map fun x=>x.2.to))],.box g9 75 [sl A pre.length cap],.own A 3 1 pre.length cap (dY (pre.map fun x=>x.1))]) (fun _=>False) ?_ ⟨none,0,rfl⟩ ?_ ?_ ?_
  · exact mS
  · rintro l pre ⟨i,g⟩ post hus _ ⟨A,cap,rfl⟩ F F'
    have hlu:=congrArg List.length hus
    simp only [HV,IA] at hlu
    change WR _ _ _ l _ _ ((48,Value.agg (bB g).toArray)::(47,Value.int .i64 (i:Int))::_) (.box g8 33 [vS (orS (pre.map fun x=>x.2.to))]:: .box g9 75 [sl A pre.length cap]:: .own A 3 1 pre.length cap (dY (pre.map fun x=>x.1))::F)
    repeat' (first|refine sT ?_|refine sR ?_|refine sM fun _=> ?_|(refine sC ?_ ?_<;>intro hb<;>try omega)|(refine sCR ?_ ?_<;>intro hb<;>try omega)|fail)
    rename_i g16
    refine pZ ⟨[.box g16 56 (bB g),.box g8 33 [vS (orS (pre.map fun x=>x.2.to))],.box g9 75 [sl A pre.length cap],.own A 3 1 pre.length cap (dY (pre.map fun x=>x.1))],MSub.refl _,?_⟩
    change WR _ _ _ l _ _ _ (.box g16 56 (bB g):: .box g8 33 [vS (orS (pre.map fun x=>x.2.to))]:: .box g9 75 [sl A pre.length cap]:: .own A 3 1 pre.length cap (dY (pre.map fun x=>x.1))::F')
    repeat' (first|(apply aj;exact rfl;apply Bf (b:=g.to);exact rfl;exact rfl)|(apply aV;(iterate 3 exact rfl);(repeat first|exact .hd|apply Sel.tl|apply In.tl);(intro w hm;exact hm.cells_own (by (repeat first|exact .hd|apply Sel.tl|apply In.tl)));exact rfl;(simp [Value.oneCell',sl]);omega;(simp only [maxLen];omega);(intro A' cap' hA'))|refine sT ?_|refine sR ?_|refine sM fun _=> ?_|(refine sC ?_ ?_<;>intro hb<;>try omega)|(refine sCR ?_ ?_<;>intro hb<;>try omega)|fail)
    refine sn [.box g8 33 [vS (orS (pre.map fun x=>x.2.to)|||g.to)],.box g9 75 [sl A' (pre.length+1) cap'],.own A' 3 1 (pre.length+1) cap' (dY (pre.map fun x=>x.1)++ [.int .i64 (i:Int)])] ?_ ⟨A',cap',?_⟩
    · change MSub (_::_::_::F') _
      exact mS
    · simp only [IQ,Iv,I5,BQ,HV,Ii,dY]
  · rintro D _ ⟨A,cap,rfl⟩
    change bi _ _ _ _ _ (eQ D:: .box g8 33 [vS (orS (us.map fun x=>x.2.to))]:: .box g9 75 [sl A us.length cap]:: .own A 3 1 us.length cap (dY (us.map fun x=>x.1))::_)
    repeat' (first|refine sT ?_|refine sS ?_|refine sR ?_|refine sM fun _=> ?_|(refine sC ?_ ?_<;>intro hb<;>try omega)|(refine sCR ?_ ?_<;>intro hb<;>try omega)|fail)
    generalize orS (us.map fun x=>x.2.to)=o
    refine oo (id:=16) [⟨2,g8,33,vS o,vS o⟩,⟨3,g9,75,sl A us.length cap,sl A us.length cap⟩] [eQ D,.own A 3 1 us.length cap (dY (us.map fun x=>x.1))] (by kernel_rfl) (by kernel_rfl) rfl mS ?_
    repeat' (first|(refine nJ ⟨2,g8,33,vS o,vS o⟩ (.head _) (f:=60) (j:=2) rfl (by decide+kernel) rfl rfl rfl ?_)|(refine nJ ⟨3,g9,75,sl A us.length cap,sl A us.length cap⟩ (.tail _ (.head _)) (f:=60) (j:=3) rfl (by decide+kernel) rfl rfl rfl ?_)|(refine fY [] [⟨3,g9,75,sl A us.length cap,sl A us.length cap⟩] ⟨2,g8,33,vS o,vS o⟩ rfl rfl rfl rfl rfl rfl ?_)|(refine fY [⟨2,g8,33,vS o,vS o⟩] [] ⟨3,g9,75,sl A us.length cap,sl A us.length cap⟩ rfl rfl rfl rfl rfl rfl ?_)|(apply xR;exact rfl;exact rfl;(exact vC))|refine sT ?_|refine sS ?_|refine sR ?_|refine sG ?_|refine sM fun _=> ?_|(refine sC ?_ ?_<;>intro hb<;>try omega)|(refine sCR ?_ ?_<;>intro hb<;>try omega)|fail)
    refine pQ pK ?_
    exact BI eIO rfl rfl pK rfl pK rfl (H' := [.own A 3 1 us.length cap (dY (us.map fun x=>x.1))]) mS ⟨A,cap,by dsimp only;rw [List.length_map],by dsimp only;rw [List.length_map]⟩
  · rintro D HU h
    exact h.elim
end Go.SL
namespace Go.SL
open Go Go.Proofs
attribute [local irreducible] W WL WQ WG WA WX WLI WR WT WC WE VOp RW thn blk bo scp aN bf bi aF FnIn FnP ceP
def Eo:Bk:=⟨3,j6,bkR,[],[],[],0⟩
theorem tF (w:World):aF Tryz.prog 57 [] w fun v H=> ∃ a:Bo,v= .agg (bn Eo a.v).toArray∧H=aG Eo a:=by
 refine aq Tryz.func57 rfl Tryz.ntmps57 rfl ?_
 refine aw 56 8 ?_
 refine aw 58 9 ?_
 refine aw 62 11 ?_
 repeat' (first|(apply av (f:=116);exact rfl;exact rfl;(intro w' hm;exact Aq w');rintro _ _ ⟨ge,gr,gn,rfl,rfl⟩)|refine sT ?_|refine sS ?_|refine sM fun _=> ?_|(refine sC ?_ ?_<;>intro hb<;>try omega)|fail)
 exact sq (.inl rfl) rfl rfl pK rfl (H' :=aG Eo ⟨some ge,some gr,none,none,none,6,2,0,0,0⟩) (by unfold aG;exact mS) ⟨⟨some ge,some gr,none,none,none,6,2,0,0,0⟩,rfl,rfl⟩
end Go.SL
namespace Go.SL
open Go Go.Proofs
attribute [local irreducible] W WL WQ WG WA WX WLI WR WT WC WE VOp RW thn blk bo scp aN bf bi aF FnIn FnP ceP
def iY:Bk:=⟨0,[],[],[],[],[],0⟩
def rF:Bo:=⟨none,none,none,none,none,0,0,0,0,0⟩
theorem vH {b:Bk} (h: ¬ bkE b≠0):0≤b.step∧b.step≤1099511627776∧b.rules.length≤64∧b.grants.length≤64:=by
 have h:=Decidable.not_not.1 h
 unfold bkE at h
 split at h
 ·
  exact absurd h (by decide)
 split at h
 ·
  rename_i h2;exact absurd h h2
 split at h
 ·
  rename_i h2;exact absurd h h2
 rename_i hacl
 split at h
 ·
  rename_i h2;exact absurd h h2
 rename_i hgnt
 split at h
 ·
  rename_i h2;exact absurd h h2
 split at h
 ·
  exact absurd h (by decide)
 refine ⟨by omega,by omega,?_,?_⟩
 ·
  unfold eX at hacl
  split at hacl
  ·
   exact absurd (by decide) hacl
  split at hacl
  ·
   exact absurd (by decide) hacl
  ·
   omega
 ·
  unfold lF at hgnt
  split at hgnt
  ·
   exact absurd (by decide) hgnt
  split at hgnt
  ·
   exact absurd (by decide) hgnt
  ·
   omega
end Go.SL
namespace Go.SL
open Go
def iW (b:Bk) (a:Rf) (u:Us) (rd:BitVec 64) (i:Nat):List Rv:=match b.grants[i]? with
 |some g=>if g.to≠0#64 then [⟨b.step - 1,⟨a,u.node⟩,u.fn,u.rect,(i:Int),rd⟩] else []
 |none=> []
def dX (b:Bk) (a:Rf) (rd:BitVec 64) (u:Us):List Rv:=if u.node<0 then [] else (iX u.fn u.rect b.rules b.grants).2.1.flatMap (iW b a u rd)
def jo (b:Bk) (G:Gr) (a:Rf):List Rv:=(eL G a).flatMap (dX b a (atE a b.rules).1.1)
def yt (b:Bk) (G:Gr):List Rv:=(ba G).flatMap (jo b G)
def grB (b:Bk):Gr:=(nD b.ents).1.getD []
def cF (b:Bk):List Rv:=yt b (grB b)
theorem DY {L:List Et} (h:(dm L).2=0): ∃ G,nD L=(some G,0)∧GrOk G∧G.length≤L.length:=by
 rcases BV L with ⟨e,he,h2⟩|h2
 ·
  rw [yn,if_neg (by rw [h];decide)] at h2
  exact absurd (congrArg Prod.fst h2) (by simp)
 ·
  exact h2
theorem Cw {b:Bk} (h:BkOk b):nD b.ents=(some (grB b),0)∧GrOk (grB b)∧(grB b).length≤b.ents.length:=by
 obtain ⟨G,h1,h2,h3⟩:=DY h.e
 have:grB b=G:=by unfold grB;rw [h1];rfl
 rw [this];exact ⟨h1,h2,h3⟩
def AU (b:Bk) (M:List Rv):Bk:=⟨b.users,b.ents,b.rules,b.grants,b.log,b.rels++M,b.step⟩
def BR (b:Bk):Bk:=AU b (dO (cF b) b.rels)
def uD (fn:Int) (r:Rct) (L:List Rl):List Gn→Nat→List Nat
 | [],_=> []
 |g::G,i=>bif DU fn r L g then i::uD fn r L G (i+1) else uD fn r L G (i+1)
theorem oR {fn:Int} {r:Rct} {L:List Rl}: ∀ (G:List Gn) (i:Nat),(bQ fn r L G i).map (fun x=>x.1)=uD fn r L G i
 | [],_=>rfl
 |g::G,i=>by
  have h:qU fn r L g=DU fn r L g:=by unfold qU DU uW;rw [FX]
  rw [bQ,uD,h]
  cases DU fn r L g
  ·
   exact oR G (i+1)
  ·
   exact congrArg (i:: ·) (oR G (i+1))
def byC (fn:Int) (r:Rct) (L:List Rl) (G:List Gn):List Nat:=
 if fn<46∨50<fn then [] else if eZ r≠0 then [] else if (eX 64 L).2≠0 then [] else if (lF 64 G).2≠0 then [] else uD fn r L G 0
theorem Gc {fn:Int} {r:Rct} {L:List Rl} {G:List Gn}:(iX fn r L G).2.1=byC fn r L G:=by
 unfold iX byC
 rw [oR]
 repeat' split
 all_goals rfl
def lvC (b:Bk) (G:Gr):List Rv:=(ba G).flatMap fun a=>(eL G a).flatMap fun u=>if u.node<0 then [] else (byC u.fn u.rect b.rules b.grants).flatMap (iW b a u (atE a b.rules).1.1)
theorem Cf (b:Bk) (G:Gr):yt b G=lvC b G:=by
 have h: ∀ a,dX b a (atE a b.rules).1.1=fun u=>if u.node<0 then [] else (byC u.fn u.rect b.rules b.grants).flatMap (iW b a u (atE a b.rules).1.1):=fun a=>funext fun u=>by unfold dX;rw [Gc]
 unfold yt lvC jo
 simp only [h]
theorem D6 {b:Bk} {G:Gr} {e:Int} {l:List Rv} (h:nD b.ents=(some G,e)) (h2:lvC b G=l):cF b=l:=by
 unfold cF grB
 rw [h,← h2,← Cf]
 rfl
def Cx:Gn:=⟨⟨2,1,2,3⟩,1,2#64,0,false⟩
def aM:Bk:=⟨3,j6,bkR,[Cx],[],[],1⟩
def eV:Rv:=⟨0,⟨⟨1,3⟩,1⟩,46,⟨2,1,2,3⟩,0,7#64⟩
set_option maxRecDepth 100000 in
theorem ij:bkE aM=0:=by decide+kernel
set_option maxRecDepth 100000 in
theorem jQ:cF aM= [eV]:=D6 CC (by decide+kernel)
end Go.SL
