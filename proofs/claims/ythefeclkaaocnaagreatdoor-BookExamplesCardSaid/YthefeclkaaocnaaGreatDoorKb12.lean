/-
  Lemmas and walks, put together: B4 B5 W11 W12 W13 Px Px2 C1.
-/
import Derived.Test.YthefeclkaaocnaaGreatDoorKb11
set_option linter.unusedSimpArgs false
set_option linter.unusedVariables false
set_option maxRecDepth 20000
namespace Go.SL
open Go Go.Proofs
attribute [local irreducible] W WL WQ WG WA WX WLI WR WT VOp thn blk cutP scp retP endB FnAt FnIn
def wordI (l:List Int):Option (Tk × Nat):=
 if letC (l.headD 0)=false then none
 else if (l.drop (runL wrdC l)).headD 0=40 then some (⟨7,0,mkB (upW l),zeroR,0⟩,runL wrdC l)
 else if mkB (upW l)=trueB then some (⟨3,1,emptyB,zeroR,0⟩,runL wrdC l)
 else if mkB (upW l)=falseB then some (⟨3,0,emptyB,zeroR,0⟩,runL wrdC l)
 else if (addrL (upW l)).2.2≠0 then none
 else if (l.drop (runL wrdC l)).headD 0=58∧letC ((l.drop (runL wrdC l+1)).headD 0)=true∧(addrL (upW (l.drop (runL wrdC l+1)))).2.2=0∧(l.drop (runL wrdC l+1+runL wrdC (l.drop (runL wrdC l+1)))).headD 0≠40 then
  some (⟨if (addrL (upW l)).1=(addrL (upW (l.drop (runL wrdC l+1)))).1∧(addrL (upW l)).2.1=(addrL (upW (l.drop (runL wrdC l+1)))).2.1 then 5 else 6,0,emptyB,
   ⟨min (addrL (upW l)).1 (addrL (upW (l.drop (runL wrdC l+1)))).1,min (addrL (upW l)).2.1 (addrL (upW (l.drop (runL wrdC l+1)))).2.1,max (addrL (upW l)).1 (addrL (upW (l.drop (runL wrdC l+1)))).1,max (addrL (upW l)).2.1 (addrL (upW (l.drop (runL wrdC l+1)))).2.1⟩,0⟩,runL wrdC l+1+runL wrdC (l.drop (runL wrdC l+1)))
 else some (⟨5,0,emptyB,oneA (addrL (upW l)).1 (addrL (upW l)).2.1,0⟩,runL wrdC l)
theorem min_ge (a b:Int):(if b<a then b else a)=min a b:=by omega
theorem max_ge (a b:Int):(if a<b then b else a)=max a b:=by omega
theorem addrW_at (l:List Int) (hl:bytesOk l) (hlen:l.length≤100000) (w:World):Pure Tryz.prog 284 [.string (mkB l)] w (.tuple #[.agg (encF ⟨(addrL l).1,(addrL l).2.1⟩).toArray,.int .i64 (addrL l).2.2]):=by
 have h:=addrParse_at (mkB l) (by rw [mkB_size];exact hlen) w
 rw [ints_mkB hl,addrP_eq] at h
 exact h
set_option maxHeartbeats 2000000 in
theorem word_at (a:ByteArray) (ha:a.size≤10000) (i:Nat) (hi:i<a.size) (g:Nat) (w:World) (hr:Ro w g 0 [.string a]):
  Pure Tryz.prog 245 [.pointer (some ⟨g,0,none⟩),.int .i64 (i:Int)] w (tokV (atT i (wordI ((ints a).drop i)))):=by
 refine fn_at Tryz.func245 rfl Tryz.ntmps245 rfl ?_
 have hl:=ints_length a
 have hP1:=fun w' h=>plain_at a (by omega) i (by omega) g w' h
 have hwl:=runL_le wrdC ((ints a).drop i)
 have hul:=upW_length ((ints a).drop i)
 have huk:bytesOk (upW ((ints a).drop i)):=upW_ok fun c hc=>ints_ok a c (List.mem_of_mem_drop hc)
 rw [List.length_drop] at hwl
 have hW:wordI ((ints a).drop i)=wordI ((ints a).drop i):=rfl
 unfold wordI at hW ⊢
 clear hW
 rw [headD_at]
 simp only [List.drop_drop]
 generalize hn:runL wrdC ((ints a).drop i)=n at*
 generalize hu:upW ((ints a).drop i)=u at*
 rw [headD_at]
 have hus:(mkB u).size=n:=by rw [mkB_size,hul]
 have hA1:=addrW_at u huk (by omega)
 generalize hau:addrL u=A1 at hA1
 obtain ⟨c1,r1,e1⟩:=A1
 dsimp only at hA1 ⊢
 have hN1:=fun w' h=>next_at a (by omega) (i+n) g w' h
 have hN2:=fun w' h=>next_at a (by omega) (i+n+1) g w' h
 have hb1l:bat a (i+n)≠0→i+n<a.size:=fun h=>by
  rcases Nat.lt_or_ge (i+n) a.size with h1|h1
  ·
   exact h1
  ·
   exfalso;apply h;rw [bat,List.getD_eq_getElem?_getD,List.getElem?_eq_none (by omega)];rfl
 generalize hb1:bat a (i+n)=b1 at hN1 hb1l
 rw [show i+(n+1)=i+n+1 by omega]
 have hvl:=upW_length ((ints a).drop (i+n+1))
 have hvk:bytesOk (upW ((ints a).drop (i+n+1))):=upW_ok fun c hc=>ints_ok a c (List.mem_of_mem_drop hc)
 have hvr:=runL_le wrdC ((ints a).drop (i+n+1))
 rw [List.length_drop] at hvr
 have hP2:=fun w' hi h=>plain_at a (by omega) (i+n+1) hi g w' h
 generalize hm:runL wrdC ((ints a).drop (i+n+1))=m at*
 generalize hv:upW ((ints a).drop (i+n+1))=v at*
 rw [headD_at,headD_at]
 have hvs:(mkB v).size=m:=by rw [mkB_size,hvl]
 have hA2:=addrW_at v hvk (by omega)
 generalize hav:addrL v=A2 at hA2
 obtain ⟨c2,r2,e2⟩:=A2
 dsimp only at hA2 ⊢
 rw [show i+(n+1+m)=i+n+1+m by omega]
 have hN3:=fun w' h=>next_at a (by omega) (i+n+1+m) g w' h
 generalize hb2:bat a (i+n+1)=b2 at hN2
 generalize hb3:bat a (i+n+1+m)=b3 at hN3
 repeat' (first|((with_reducible apply wl_v);exact rfl;(with_reducible apply v_load_ro (o:=0) (off:=0));exact hr;exact rfl;exact rfl)|((with_reducible apply wl_callp);exact rfl;exact rfl;(intro w hm;exact lexLetter_at _ w))|((with_reducible apply wl_v (d:=28));exact rfl;(with_reducible apply v_lens_to);exact rfl;exact hus)|((with_reducible apply wl_v (d:=90));exact rfl;(with_reducible apply v_lens_to);exact rfl;exact hvs)|((with_reducible apply wl_v (d:=126));exact rfl;(with_reducible apply v_lens_to);exact rfl;exact hvs)|((with_reducible apply wl_callp (d:=26));exact rfl;exact rfl;(intro w' hm;exact hP1 w' (hr.next hm)))|((with_reducible apply wl_callp (d:=77));exact rfl;exact rfl;(intro w' hm;exact hP2 w' (hb1l (by omega)) (hr.next hm)))|((with_reducible apply wl_callp (d:=34));exact rfl;exact rfl;(intro w' hm;exact hN1 w' (hr.next hm)))|((with_reducible apply wl_callp (d:=65));exact rfl;exact rfl;(intro w' hm;exact hN1 w' (hr.next hm)))|((with_reducible apply wl_callp (d:=71));exact rfl;exact rfl;(intro w' hm;exact hN2 w' (hr.next hm)))|((with_reducible apply wl_callp (d:=92));exact rfl;exact rfl;(intro w' hm;exact hN3 w' (hr.next hm)))|((with_reducible apply wl_callp);exact rfl;exact rfl;(intro w hm;exact hA1 w))|((with_reducible apply wl_callp);exact rfl;exact rfl;(intro w hm;exact hA2 w))|((with_reducible apply wl_v (d:=99));exact rfl;exact min_ge _ _ ▸ v_min rfl rfl)|((with_reducible apply wl_v (d:=104));exact rfl;exact min_ge _ _ ▸ v_min rfl rfl)|((with_reducible apply wl_v (d:=109));exact rfl;exact max_ge _ _ ▸ v_max rfl rfl)|((with_reducible apply wl_v (d:=114));exact rfl;exact max_ge _ _ ▸ v_max rfl rfl)|((with_reducible apply wl_v (d:=118));exact rfl;exact v_eqlF (a:=⟨c1,r1⟩) (b:=⟨c2,r2⟩) rfl rfl)|((with_reducible apply wl_callp);exact rfl;exact rfl;(intro w hm;exact One_at ⟨c1,r1⟩ w))|refine sT ?_|refine sT2 ?_|refine sN ?_|refine sM fun _=> ?_|(refine sC ?_ ?_<;>intro hb<;>try omega)|fail)
 all_goals
  (refine eRCT ?_)
  simp_all [trueB,falseB,tokV,atT,encTk,encF,zeroR,emptyB,oneA,eqF,encR,zeroTk]
def rulesP:List (List Int→Option (Tk × Nat)):= [numberP,textP,wordI,failP,signP]
def firstP (l:List Int):List (List Int→Option (Tk × Nat))→Option (Tk × Nat)
 | []=>none
 |r::rs=>match r l with
  |some x=>some x
  |none=>firstP l rs
def tokenP (l:List Int):Option (Tk × Nat):=firstP l rulesP
def tokensG (tk:List Int→Option (Tk × Nat)) (l:List Int):Nat→Nat→Except Nat (List Tk)
 |0,_=> .ok []
 |f+1,i=>
  match l.drop i with
  | []=> .ok []
  |c::_=>
   if c=32 then tokensG tk l f (i+1)
   else match tk (l.drop i) with
    |none=> .error i
    |some (t,n)=>(tokensG tk l f (i+n)).map fun r=>{ t with at_:=(i:Int) }::r
def Fits (l:List Int) (o:Option (Tk × Nat)):Prop:= ∀ t n,o=some (t,n)→0<n∧n≤l.length
theorem Fits.none {l:List Int}:Fits l none:=fun _ _ h=>by cases h
theorem Fits.some {l:List Int} {t:Tk} {n:Nat} (h1:0<n) (h2:n≤l.length):Fits l (some (t,n)):=fun _ _ h=>by cases h;exact ⟨h1,h2⟩
theorem headD_len {l:List Int} {c:Int} (h:l.headD 0=c) (hc:c≠0):0<l.length:=by
 cases l with
 |nil=>exact absurd h.symm hc
 |cons=>simp
theorem placesL_le (l:List Int):placesL l=0∨placesL l+1≤l.length:=by
 unfold placesL
 split
 ·
  right
  rename_i r
  have:=runL_le digC r
  simp;omega
 ·
  left;rfl
theorem number_fits (l:List Int):Fits l (numberP l):=by
 unfold numberP
 dsimp only
 have h1:=runL_le digC l
 have h2:=placesL_le (l.drop (runL digC l))
 rw [List.length_drop] at h2
 have h3:(if placesL (l.drop (runL digC l))=0 then runL digC l else runL digC l+1+placesL (l.drop (runL digC l)))≤l.length∧runL digC l≤(if placesL (l.drop (runL digC l))=0 then runL digC l else runL digC l+1+placesL (l.drop (runL digC l))):=by
  split<;>omega
 generalize (if placesL (l.drop (runL digC l))=0 then runL digC l else runL digC l+1+placesL (l.drop (runL digC l)))=m at h3 ⊢
 split
 ·
  exact .none
 ·
  rename_i h
  split
  ·
   exact .none
  ·
   exact .some (by omega) (by omega)
theorem closeQ_le: ∀ (n:Nat) (l:List Int) (k:Nat),l.length≤n→closeQ l=some k→k<l.length
 |_,[],_,_,h=>by simp [closeQ] at h
 |0,c::r,_,hn,_=>by simp at hn
 |n+1,c::r,k,hn,h=>by
  by_cases hc:c=34
  ·
   subst hc
   cases r with
   |nil=>simp [closeQ] at h;subst h;simp
   |cons d r' =>
    by_cases hd:d=34
    ·
     subst hd
     simp only [closeQ,ne_eq,not_true_eq_false,if_false,if_true,Option.map_eq_some_iff] at h
     obtain ⟨j,hj,rfl⟩:=h
     have:=closeQ_le n r' j (by simp at hn;omega) hj
     simp;omega
    ·
     simp [closeQ,hd] at h
     subst h;simp
  ·
   rw [closeQ_cons hc,Option.map_eq_some_iff] at h
   obtain ⟨j,hj,rfl⟩:=h
   have:=closeQ_le n r j (by simp at hn;omega) hj
   simp;omega
theorem text_fits (l:List Int):Fits l (textP l):=by
 unfold textP
 split
 ·
  exact .none
 ·
  rename_i h
  have h0:=headD_len (c:=34) (Decidable.not_not.1 h) (by decide)
  split
  ·
   exact .none
  ·
   rename_i k hk
   have:=closeQ_le _ _ k (Nat.le_refl _) hk
   rw [List.length_drop] at this
   split
   ·
    exact .none
   ·
    exact .some (by omega) (by omega)
theorem word_fits (l:List Int):Fits l (wordI l):=by
 have h1:=runL_le wrdC l
 have h2:=runL_le wrdC (l.drop (runL wrdC l+1))
 rw [List.length_drop] at h2
 have hpos:letC (l.headD 0)≠false→0<runL wrdC l:=fun h=>by
  cases l with
  |nil=>exact absurd rfl h
  |cons c r=>
   have:letC c=true:=by simpa using h
   simp [runL,wrdC,this]
 unfold wordI
 split
 ·
  exact .none
 ·
  rename_i h
  have hp:=hpos h
  split
  ·
   exact .some hp h1
  ·
   split
   ·
    exact .some hp h1
   ·
    split
    ·
     exact .some hp h1
    ·
     split
     ·
      exact .none
     ·
      split
      ·
       rename_i hq
       have:=headD_len hq.1 (by decide)
       rw [List.length_drop] at this
       exact .some (by omega) (by omega)
      ·
       exact .some hp h1
theorem failL_fits (l:List Int): ∀ (ns:List (List Int)) (c k:Int) (n:Nat),(∀ s∈ns,s≠ [])→failL l ns c=some (k,n)→0<n∧n≤l.length
 | [],_,_,_,_,h=>by cases h
 |s::r,c,k,n,hs,h=>by
  rw [failL] at h
  split at h
  ·
   rename_i he
   cases h
   have:=congrArg List.length he
   rw [List.length_map,List.length_take] at this
   have:=List.length_pos_iff.2 (hs s List.mem_cons_self)
   omega
  ·
   exact failL_fits l r _ k n (fun s hs' =>hs s (List.mem_cons_of_mem _ hs')) h
theorem fail_fits (l:List Int):Fits l (failP l):=by
 intro t n h
 unfold failP at h
 rw [Option.map_eq_some_iff] at h
 obtain ⟨⟨c,m⟩,h1,h2⟩:=h
 cases h2
 exact failL_fits l errNames 1 c _ (by decide) h1
theorem opL_fits (l:List Int): ∀ (ns:List (List Int × Int)) (k:Int) (n:Nat),(∀ s∈ns,s.1≠ [])→opL l ns=some (k,n)→0<n∧n≤l.length
 | [],_,_,_,h=>by cases h
 |(s,c)::r,k,n,hs,h=>by
  rw [opL] at h
  split at h
  ·
   rename_i he
   cases h
   have:=congrArg List.length he
   rw [List.length_take] at this
   have:=List.length_pos_iff.2 (hs _ List.mem_cons_self)
   dsimp only at this
   omega
  ·
   exact opL_fits l r k n (fun s hs' =>hs s (List.mem_cons_of_mem _ hs')) h
theorem sign_fits (l:List Int):Fits l (signP l):=by
 unfold signP
 split
 ·
  rename_i k n h
  have:=opL_fits l opNames k n (by decide) h
  exact .some this.1 this.2
 ·
  split
  ·
   exact .some (by omega) (headD_len (by assumption) (by decide))
  ·
   split
   ·
    exact .some (by omega) (headD_len (by assumption) (by decide))
   ·
    split
    ·
     exact .some (by omega) (headD_len (by assumption) (by decide))
    ·
     exact .none
theorem first_fits (l:List Int): ∀ rs:List (List Int→Option (Tk × Nat)),(∀ r∈rs,Fits l (r l))→Fits l (firstP l rs)
 | [],_=> .none
 |r::rs,h=>by
  unfold firstP
  split
  ·
   rename_i x hx
   exact hx ▸ h r List.mem_cons_self
  ·
   exact first_fits l rs fun r hr=>h r (List.mem_cons_of_mem _ hr)
theorem rules_fit (l:List Int): ∀ r∈rulesP,Fits l (r l):=by
 intro r hr
 simp only [rulesP,List.mem_cons,List.not_mem_nil,or_false] at hr
 rcases hr with rfl|rfl|rfl|rfl|rfl
 ·
  exact number_fits l
 ·
  exact text_fits l
 ·
  exact word_fits l
 ·
  exact fail_fits l
 ·
  exact sign_fits l
theorem token_fits (l:List Int):Fits l (tokenP l):=first_fits l _ (rules_fit l)
theorem tokensG_fuel {tk:List Int→Option (Tk × Nat)} {l:List Int} (ht: ∀ m,Fits m (tk m)): ∀ (b d f i:Nat),d≤b→l.length - i=d→d≤f→tokensG tk l f i=tokensG tk l d i:=by
 intro b
 induction b with
 |zero=>
  intro d f i hb hd hf
  have:d=0:=by omega
  subst this
  cases f with
  |zero=>rfl
  |succ f=>
   simp only [tokensG]
   rw [List.drop_of_length_le (by omega)]
 |succ b ih=>
  intro d f i hb hd hf
  cases d with
  |zero=>
   cases f with
   |zero=>rfl
   |succ f=>
    simp only [tokensG]
    rw [List.drop_of_length_le (by omega)]
  |succ m=>
   obtain ⟨g,rfl⟩: ∃ g,f=g+1:=⟨f - 1,by omega⟩
   simp only [tokensG]
   have hi:i<l.length:=by omega
   rw [List.drop_eq_getElem_cons hi]
   dsimp only
   split
   ·
    exact ih m g (i+1) (by omega) (by omega) (by omega)
   ·
    split
    ·
     rfl
    ·
     rename_i t n hn
     have:=ht _ t n hn
     rw [ih (l.length - (i+n)) g (i+n) (by omega) rfl (by omega),ih (l.length - (i+n)) m (i+n) (by omega) rfl (by omega)]
def tokensV (tk:List Int→Option (Tk × Nat)) (l:List Int):List Tk × Int × Int:=
 if 256<l.length then ([],0,5)
 else match l.findIdx? (fun c=> !plainC c) with
  |some i=>([],(i:Int),4)
  |none=>match tokensG tk l l.length 0 with
   | .ok r=>(r,0,0)
   | .error i=>([],(i:Int),4)
def tokV3 (A:Option Nat) (cap:Nat) (r:List Tk × Int × Int):Value:= .tuple #[sl A r.1.length cap,.int .i64 r.2.1,.int .i64 r.2.2]
def ruleFs:List Nat:= [243,244,245,246,247]
theorem rule_at (a:ByteArray) (ha:a.size≤10000) (i:Nat) (hi:i<a.size) (g:Nat) (k:Nat) (hk:k<5):
  ∃ f r,rulesP.drop k=r::rulesP.drop (k+1)∧(ruleFs.map fun f=>Value.func (.func f) #[.pointer (some ⟨g,0,none⟩)] #[])[k]? =some (.func (.func f) #[.pointer (some ⟨g,0,none⟩)] #[])∧Callable Tryz.prog f∧
   ∀ w,Ro w g 0 [.string a]→Words w→Pure Tryz.prog f [.pointer (some ⟨g,0,none⟩),.int .i64 (i:Int)] w (tokV (atT i (r ((ints a).drop i)))):=by
 rcases (by omega:k=0∨k=1∨k=2∨k=3∨k=4) with rfl|rfl|rfl|rfl|rfl
 ·
  exact ⟨_,_,rfl,rfl,inferInstance,fun w hr _=>number_at a (by omega) i (by omega) g w hr⟩
 ·
  exact ⟨_,_,rfl,rfl,inferInstance,fun w hr _=>text_at a (by omega) i hi g w hr⟩
 ·
  exact ⟨_,_,rfl,rfl,inferInstance,fun w hr _=>word_at a ha i hi g w hr⟩
 ·
  exact ⟨_,_,rfl,rfl,inferInstance,fun w hr hW=>fail_at a (by omega) i (by omega) g w hr hW⟩
 ·
  exact ⟨_,_,rfl,rfl,inferInstance,fun w hr _=>sign_at a (by omega) i hi g w hr⟩
theorem find_bat {a:ByteArray} {q:Int→Bool} {i:Nat} (h:i<a.size) (hq:q (bat a i)=true) (hno: ∀ j,j<i→q (bat a j)=false):(ints a).findIdx? q=some i:=by
 rw [List.findIdx?_eq_some_iff_getElem]
 have hl:=ints_length a
 have hg: ∀ j (hj:j<(ints a).length),(ints a)[j]=bat a j:=fun j hj=>by
  have:=bat_get (a:=a) (i:=j) (by omega)
  rw [List.getElem?_eq_getElem hj] at this
  exact Option.some.inj this
 refine ⟨by omega,by rw [hg];exact hq,fun j hj=> ?_⟩
 rw [hg,hno j hj];simp
theorem nofind_bat {a:ByteArray} {q:Int→Bool} (hno: ∀ j,j<a.size→q (bat a j)=false):(ints a).findIdx? q=none:=by
 rw [List.findIdx?_eq_none_iff]
 intro x hx
 obtain ⟨j,hj,rfl⟩:=List.getElem_of_mem hx
 have hl:=ints_length a
 have:=bat_get (a:=a) (i:=j) (by omega)
 rw [List.getElem?_eq_getElem hj] at this
 rw [Option.some.inj this]
 exact hno j (by omega)
set_option maxHeartbeats 2000000 in
theorem Tokens_at (a:ByteArray) (w:World) (hW:Words w):
  FnAt Tryz.prog 203 [.string a] w fun v H=> ∃ A cap,v=tokV3 A cap (tokensV tokenP (ints a))∧H= [.own A 295 8 (tokensV tokenP (ints a)).1.length cap ((tokensV tokenP (ints a)).1.flatMap encTk)]:=by
 refine fn_at Tryz.func203 rfl Tryz.ntmps203 rfl ?_
 have hl:=ints_length a
 unfold tokensV
 refine w_nilrow 295 8 ?_
 by_cases hlen:256<(ints a).length
 ·
  rw [if_pos hlen]
  repeat' (first|refine sT ?_|refine sS ?_|refine sT2 ?_|refine sM fun _=> ?_|(refine sC ?_ ?_<;>intro hb<;>try omega)|fail)
  all_goals first|(exfalso;omega)|skip
  exact ret3 (.inl rfl) rfl rfl rfl rfl (.refl _) ⟨none,0,rfl,rfl⟩
 ·
  rw [if_neg hlen]
  repeat' (first|refine sT ?_|refine sS ?_|refine sT2 ?_|refine sM fun _=> ?_|(refine sC ?_ ?_<;>intro hb<;>try omega)|fail)
  all_goals first|(exfalso;omega)|skip
  refine w_loopK [0,2,17] rfl (fun i:Nat=> [(18,.int .i64 (i:Int))]) (fun _=> [.own none 295 8 0 0 []]) (fun i=>i≤a.size∧ ∀ j,j<i→plainC (bat a j)=true) (fun i=>a.size - i) 0 ⟨by omega,fun j h=>by omega⟩ sB mS ?_
  rintro i ⟨hi,hpl⟩
  by_cases hlt:i<a.size
  ·
   repeat' (first|refine sT ?_|refine sS ?_|refine sT2 ?_|refine sN ?_|refine sM fun _=> ?_|(refine sC ?_ ?_<;>intro hb<;>try omega)|fail)
   ·
    have hf:(ints a).findIdx? (fun c=> !plainC c)=some i:=by
     refine find_bat hlt ?_ fun j hj=>by rw [hpl j hj];rfl
     simp only [plainC,Bool.not_eq_true',Bool.and_eq_false_iff,decide_eq_false_iff_not]
     omega
    rw [hf]
    exact ret3 (.inl rfl) rfl rfl rfl rfl (.refl _) ⟨none,0,rfl,rfl⟩
   ·
    have hf:(ints a).findIdx? (fun c=> !plainC c)=some i:=by
     refine find_bat hlt ?_ fun j hj=>by rw [hpl j hj];rfl
     simp only [plainC,Bool.not_eq_true',Bool.and_eq_false_iff,decide_eq_false_iff_not]
     omega
    rw [hf]
    exact ret3 (.inl rfl) rfl rfl rfl rfl (.refl _) ⟨none,0,rfl,rfl⟩
   ·
    refine ⟨i+1,?_,(by first|omega|(dsimp only;omega)),sB,sB,mS⟩
    refine ⟨hlt,fun j hj=> ?_⟩
    rcases (by omega:j<i∨j=i) with h|rfl
    ·
     exact hpl j h
    ·
     rename_i h1
     simp only [plainC,Bool.and_eq_true,decide_eq_true_eq]
     omega
  ·
   have e:i=a.size:=by omega
   subst e
   have hf:(ints a).findIdx? (fun c=> !plainC c)=none:=nofind_bat fun j hj=>by rw [hpl j hj];rfl
   rw [hf]
   dsimp only
   repeat' (first|((with_reducible apply wl_v);exact rfl;(with_reducible apply v_makeMeth);exact rfl)|((with_reducible apply wl_buildAr);(iterate 6 exact rfl))|refine sT ?_|refine sS ?_|refine sT2 ?_|refine sN ?_|refine sM fun _=> ?_|(refine sC ?_ ?_<;>intro hb<;>try omega)|fail)
   all_goals first|(exfalso;omega)|skip
   rename_i g6 g7
   generalize hT:tokensG tokenP (ints a) (ints a).length 0=T
   refine w_loopK [0,6,7] rfl (fun x:Nat × List Tk × Option Nat × Nat=> [(2,sl x.2.2.1 x.2.1.length x.2.2.2),(8,.int .i64 (x.1:Int))]) (fun x=> [.own x.2.2.1 295 8 x.2.1.length x.2.2.2 (x.2.1.flatMap encTk),.box g7 336 (ruleFs.map fun f=>Value.func (.func f) #[.pointer (some ⟨g6,0,none⟩)] #[]),.box g6 334 [.string a]])
    (fun x=>x.1≤a.size∧x.2.1.length≤x.1∧T=(tokensG tokenP (ints a) (a.size - x.1) x.1).map (x.2.1++ ·)) (fun x=>a.size - x.1) (0,[],none,0) ⟨by omega,by simp,by rw [← hT,hl];cases tokensG tokenP (ints a) a.size 0<;>rfl⟩ sB mS ?_
   rintro ⟨i,toks,A,cap⟩ ⟨hi2,hi3,hi4⟩
   dsimp only at hi2 hi3 hi4 ⊢
   by_cases hlt2:i<a.size
   ·
    obtain ⟨f,hf1⟩: ∃ f,a.size - i=f+1:=⟨a.size - i - 1,by omega⟩
    rw [hf1] at hi4
    simp only [tokensG] at hi4
    have hdr:=bat_drop hlt2
    generalize hld:(ints a).drop i=ld at hi4 hdr
    rw [hdr] at hi4
    dsimp only at hi4
    by_cases h32:bat a i=32
    ·
     rw [if_pos h32] at hi4
     repeat' (first|refine sT ?_|refine sS ?_|refine sT2 ?_|refine sN ?_|refine sM fun _=> ?_|(refine sC ?_ ?_<;>intro hb<;>try omega)|fail)
     all_goals first|(exfalso;omega)|skip
     refine ⟨(i+1,toks,A,cap),?_,(by first|omega|(dsimp only;omega)),sB,sB,mS⟩
     exact ⟨hlt2,by dsimp only;omega,by dsimp only;rw [show a.size - (i+1)=f by omega];exact hi4⟩
    ·
     rw [if_neg h32,← hdr] at hi4
     repeat' (first|refine sT ?_|refine sS ?_|refine sT2 ?_|refine sN ?_|refine sM fun _=> ?_|(refine sC ?_ ?_<;>intro hb<;>try omega)|fail)
     all_goals first|(exfalso;omega)|skip
     have hldl:ld.length=a.size - i:=by rw [← hld,List.length_drop,hl]
     refine w_loopK [0,2,6,7,8,57] rfl (fun k:Nat=> [(58,.int .i64 (k:Int))]) (fun _=> [.own A 295 8 toks.length cap (toks.flatMap encTk),.box g7 336 (ruleFs.map fun f=>Value.func (.func f) #[.pointer (some ⟨g6,0,none⟩)] #[]),.box g6 334 [.string a]]) (fun k=>k≤5∧tokenP ld=firstP ld (rulesP.drop k)) (fun k=>5 - k) 0 ⟨by omega,rfl⟩ sB mS ?_
     rintro k ⟨hk,hkt⟩
     by_cases hk5:k<5
     ·
      obtain ⟨f2,r,r1,r2,r3,r4⟩:=rule_at a (by omega) i hlt2 g6 k hk5
      rw [hld] at r4
      rw [r1,firstP] at hkt
      cases ho:r ld with
      |none=>
       rw [ho] at hkt r4
       dsimp only at hkt
       repeat' (first|((with_reducible apply wl_v);exact rfl;(with_reducible apply v_index_arr);exact rfl;exact rfl;exact hk5;exact r2)|((with_reducible apply wl_callmp);exact rfl;exact rfl;exact r3;exact rfl;(intro w' hm;exact r4 w' (Ro.of_box hm pK) (hW.next hm)))|refine sT ?_|refine sS ?_|refine sT2 ?_|refine sN ?_|refine sM fun _=> ?_|(refine sC ?_ ?_<;>intro hb<;>try omega)|fail)
       all_goals first|(exfalso;omega)|skip
       refine ⟨k+1,?_,(by first|omega|(dsimp only;omega)),sB,sB,mS⟩
       exact ⟨hk5,hkt⟩
      |some x=>
       obtain ⟨t,m⟩:=x
       rw [ho] at hkt r4
       dsimp only at hkt
       have hfit:=token_fits ld t m hkt
       rw [hkt] at hi4
       dsimp only at hi4
       have hm0:0<m:=hfit.1
       repeat' (first|((with_reducible apply wl_v);exact rfl;(with_reducible apply v_index_arr);exact rfl;exact rfl;exact hk5;exact r2)|((with_reducible apply wl_callmp);exact rfl;exact rfl;exact r3;exact rfl;(intro w' hm;exact r4 w' (Ro.of_box hm pK) (hW.next hm)))|((with_reducible apply wl_append1);(iterate 3 exact rfl);exact pK;exact pK;exact rfl;(simp [encTk,Value.oneCell']);omega;(simp only [maxLen];omega);intro g8 c8)|refine sT ?_|refine sS ?_|refine sT2 ?_|refine sN ?_|refine sM fun _=> ?_|(refine sC ?_ ?_<;>intro hb<;>try omega)|fail)
       all_goals first|(exfalso;omega)|skip
       refine ⟨(i+m,toks++ [{ t with at_:=(i:Int) }],some g8,c8),⟨by dsimp only;omega,by simp;omega,?_⟩,(by dsimp only;omega),?_,sB,?_⟩
       ·
        dsimp only
        rw [hi4,tokensG_fuel token_fits f (a.size - (i+m)) f (i+m) (by omega) (by omega) (by omega)]
        cases tokensG tokenP (ints a) (a.size - (i+m)) (i+m)<;>simp [Except.map]
       ·
        simp only [List.length_append,List.length_singleton]
        exact sB
       ·
        simp only [List.length_append,List.length_singleton,List.flatMap_append,List.flatMap_cons,List.flatMap_nil,List.append_nil]
        exact mS
     ·
      have e:k=5:=by omega
      subst e
      rw [show firstP ld (rulesP.drop 5)=none from rfl] at hkt
      rw [hkt] at hi4
      dsimp only [Except.map] at hi4
      rw [hi4]
      refine w_nilrow 295 8 ?_
      repeat' (first|refine sT ?_|refine sS ?_|refine sT2 ?_|refine sN ?_|refine sM fun _=> ?_|(refine sC ?_ ?_<;>intro hb<;>try omega)|fail)
      all_goals first|(exfalso;omega)|skip
      exact ret3 (.inl rfl) rfl rfl rfl rfl (H' := [.own none 295 8 0 0 []]) mS ⟨none,0,rfl,rfl⟩
   ·
    have e:i=a.size:=by omega
    subst e
    rw [show a.size - a.size=0 by omega] at hi4
    simp only [tokensG,Except.map,List.append_nil] at hi4
    rw [hi4]
    repeat' (first|refine sT ?_|refine sS ?_|refine sT2 ?_|refine sN ?_|refine sM fun _=> ?_|(refine sC ?_ ?_<;>intro hb<;>try omega)|fail)
    all_goals first|(exfalso;omega)|skip
    exact ret3 (.inl rfl) rfl rfl rfl rfl (H' := [.own A 295 8 toks.length cap (toks.flatMap encTk)]) mS ⟨A,cap,rfl,rfl⟩
end Go.SL
namespace Go.SL
open Go Go.Proofs
attribute [local irreducible] W WL WQ WG WA VOp thn blk retP FnAt FnIn
def namesL:List ByteArray:= [
 ⟨#[65,66,83]⟩,⟨#[83,73,71,78]⟩,⟨#[73,78,84]⟩,⟨#[84,82,85,78,67]⟩,⟨#[82,79,85,78,68]⟩,
 ⟨#[77,79,68]⟩,⟨#[80,79,87,69,82]⟩,⟨#[83,81,82,84]⟩,⟨#[83,85,77]⟩,⟨#[80,82,79,68,85,67,84]⟩,
 ⟨#[67,79,85,78,84]⟩,⟨#[67,79,85,78,84,65]⟩,⟨#[67,79,85,78,84,66,76,65,78,75]⟩,⟨#[65,86,69,82,65,71,69]⟩,⟨#[77,73,78]⟩,
 ⟨#[77,65,88]⟩,⟨#[77,69,68,73,65,78]⟩,⟨#[76,65,82,71,69]⟩,⟨#[83,77,65,76,76]⟩,⟨#[73,70]⟩,
 ⟨#[65,78,68]⟩,⟨#[79,82]⟩,⟨#[88,79,82]⟩,⟨#[78,79,84]⟩,⟨#[73,70,69,82,82,79,82]⟩,
 ⟨#[73,83,69,82,82,79,82]⟩,⟨#[73,83,66,76,65,78,75]⟩,⟨#[73,83,78,85,77,66,69,82]⟩,⟨#[73,83,84,69,88,84]⟩,⟨#[67,72,79,79,83,69]⟩,
 ⟨#[76,69,78]⟩,⟨#[76,69,70,84]⟩,⟨#[82,73,71,72,84]⟩,⟨#[77,73,68]⟩,⟨#[85,80,80,69,82]⟩,
 ⟨#[76,79,87,69,82]⟩,⟨#[84,82,73,77]⟩,⟨#[67,79,78,67,65,84]⟩,⟨#[82,69,80,84]⟩,⟨#[69,88,65,67,84]⟩,
 ⟨#[70,73,78,68]⟩,⟨#[86,65,76,85,69]⟩,⟨#[73,78,68,69,88]⟩,⟨#[77,65,84,67,72]⟩,⟨#[67,79,85,78,84,73,70]⟩,
 ⟨#[68,83,85,77]⟩,⟨#[68,67,79,85,78,84]⟩,⟨#[68,65,86,71]⟩,⟨#[68,77,73,78]⟩,⟨#[68,77,65,88]⟩]
theorem names_at (w:World):Pure Tryz.prog 374 [] w (.agg (namesL.map Value.string).toArray):=by
 refine fn_at Tryz.func374 rfl Tryz.ntmps374 rfl ?_
 repeat' (first|((with_reducible apply wl_buildArr);(iterate 5 exact rfl))|refine sT ?_|refine sM fun _=> ?_|(refine sC ?_ ?_<;>intro hb<;>try omega)|fail)
 exact retc (.inl rfl) Tryz.results374 rfl .hd rfl (MSub.nil _) rfl
theorem Ro.str1 {w:World} {g o:Nat} {L:List ByteArray} (h:Ro w g o (L.map Value.string)) (i:Nat) (hi:i<L.length):Ro w g (o+i*1) [Value.string L[i]]:=by
 have h1:=(h.drop (k:=i)).take (k:=1)
 rw [← List.map_drop,← List.map_take,List.drop_eq_getElem_cons hi] at h1
 rw [Nat.mul_one]
 exact h1
def idxFrom:List ByteArray→ByteArray→Int→Int
 | [],_,_=> -1
 |a::r,s,i=>if s=a then i else idxFrom r s (i+1)
theorem Index_at (L:List ByteArray) (b:ByteArray) (tv:Value) (w:World) (ht:Reads w tv L.length (L.map Value.string)):Pure Tryz.prog 375 [tv,.string b] w (.int .i64 (idxFrom L b 0)):=by
 obtain ⟨Al,cl,rfl,hl1,hl2,hl3⟩:=ht
 refine fn_at Tryz.func375 rfl Tryz.ntmps375 rfl ?_
 repeat' (first|refine sT ?_|refine sM fun _=> ?_|(refine sC ?_ ?_<;>intro hb<;>try omega)|fail)
 refine w_loop (fun i:Nat=> [(0,.slice Al L.length cl),(1,.string b),(7,.int .i64 (L.length:Int)),(8,.int .i64 (i:Int))]) (fun _=> []) (fun i=>i≤L.length∧idxFrom L b 0=idxFrom (L.drop i) b (i:Int)) (fun i=>L.length - i) 0 ⟨by omega,rfl⟩ ?_ ?_ ?_
 ·
  exact sB
 ·
  exact mS
 ·
  rintro i ⟨hi,hrec⟩
  by_cases hlt:i<L.length
  ·
   obtain ⟨gl,ol,rfl,hrl⟩:=hl3 (by omega)
   have he:=hrl.str1 i hlt
   rw [List.drop_eq_getElem_cons hlt,idxFrom] at hrec
   repeat' (first|((with_reducible apply wl_v);exact rfl;(with_reducible apply v_indexAddr);exact rfl;exact rfl;exact hlt)|((with_reducible apply wl_v);exact rfl;(with_reducible apply v_load1_ro);exact rfl;exact he)|((with_reducible apply wl_v);exact rfl;(with_reducible apply v_succN);exact rfl;exact rfl;(simp only [maxLen] at*;omega))|refine sT ?_|refine sM fun _=> ?_|(refine sC ?_ ?_<;>intro hb<;>try omega)|fail)
   ·
    (refine rT1 ?_)
    rw [hrec,if_pos hb]
   ·
    refine ⟨i+1,⟨by omega,?_⟩,by omega,?_,?_⟩
    ·
     rw [hrec,if_neg hb]
     rfl
    ·
     exact sB
    ·
     exact mS
  ·
   have e:i=L.length:=by omega
   subst e
   repeat' (first|refine sT ?_|refine sM fun _=> ?_|(refine sC ?_ ?_<;>intro hb<;>try omega)|fail)
   (refine rT1 ?_)
   rw [hrec,List.drop_length,idxFrom]
theorem namesL_length:namesL.length=50:=rfl
theorem idxFrom_bound (L:List ByteArray) (b:ByteArray) (i:Int) (h:0≤i):idxFrom L b i= -1∨(i≤idxFrom L b i∧idxFrom L b i<i+L.length):=by
 induction L generalizing i with
 |nil=>exact .inl rfl
 |cons a r ih=>
  unfold idxFrom
  rw [List.length_cons]
  split
  ·
   right;omega
  ·
   rcases ih (i+1) (by omega) with h1|h1
   ·
    exact .inl h1
   ·
    right;omega
def functionE (b:ByteArray):Int × Int:=if idxFrom namesL b 0<0 then (0,6) else (idxFrom namesL b 0+1,0)
theorem Function_at (b:ByteArray) (w:World):Pure Tryz.prog 363 [.string b] w (.tuple #[.int .u8 (functionE b).1,.int .i64 (functionE b).2]):=by
 refine fn_at Tryz.func363 rfl Tryz.ntmps363 rfl ?_
 have hb1:=idxFrom_bound namesL b 0 (by omega)
 rw [namesL_length] at hb1
 have hix:=fun w tv (h:Reads w tv (namesL.map Value.string).length (namesL.map Value.string))=>Index_at namesL b tv w h
 unfold functionE
 generalize idxFrom namesL b 0=r at hb1 hix
 repeat' (first|((with_reducible apply wl_callp);exact rfl;exact rfl;(intro w hm;exact names_at w))|((with_reducible apply wl_v);exact rfl;(with_reducible apply v_slice_arr);exact rfl)|((with_reducible apply wl_callp);exact rfl;exact rfl;(intro w' hm;exact hix w' _ (Reads.of_box hm pK rfl)))|((with_reducible apply wl_v);exact rfl;(with_reducible apply v_addw_id);exact rfl;exact rfl;exact I64.wrap ⟨by omega,by omega⟩)|((with_reducible apply wl_v);exact rfl;(with_reducible apply v_conv_id);exact rfl;exact wrap_u8 (by omega) (by omega))|refine sT ?_|refine sM fun _=> ?_|(refine sC ?_ ?_<;>intro hb<;>try omega)|fail)
 ·
  refine ret2 (.inl rfl) Tryz.results363 rfl rfl (.nil _) ?_
  rw [if_pos hb]
 ·
  refine ret2 (.inl rfl) Tryz.results363 rfl rfl (.nil _) ?_
  rw [if_neg (by omega)]
theorem wrap_i64 {a:Int} (h1:0≤a) (h2:a≤255):IntKind.i64.wrap a=a:=I64.wrap ⟨by omega,by omega⟩
end Go.SL
namespace Go.SL
open Go
def bindsE (op:Int):Int:=
 if 7≤op∧op≤12 then 1 else if op=6 then 2 else if op=1∨op=2 then 3 else if op=3∨op=4 then 4 else if op=5 then 6 else if op=13 then 7 else 0
structure PS where
 l:List Tk
 out:List Nd
def hdT (fin:Int) (l:List Tk):Tk:=l.headD { zeroTk with at_:=fin }
def PS.skip (p:PS):PS:=⟨p.l.tail,p.out⟩
def PS.put (p:PS) (n:Nd):PS:=⟨p.l,p.out++ [n]⟩
inductive Job where
 |level (k:Int)
 |loop (k:Int)
 |sign
 |pct
 |pctl
 |prim
 |args (fn:Int) (n:Nat)
abbrev Out:=Except (Int × Int) (Nat × PS)
def nodeOp (kind op:Int):Nd:=⟨kind,zeroV,zeroR,op,0,0⟩
def thenP (r:Option Out) (k:Nat→PS→Option Out):Option Out:=
 match r with
 |some (.ok (n,p))=>k n p
 |r=>r
def litT (t:Tk):Nd:=
 ⟨1,if t.kind=1 then ⟨1,t.num,emptyB⟩ else if t.kind=2 then ⟨3,0,t.text⟩ else if t.kind=3 then ⟨2,t.num,emptyB⟩ else ⟨4,t.num,emptyB⟩,zeroR,0,0,0⟩
def endCall (fin:Int) (name:Tk) (fn:Int) (n:Nat) (p:PS):Option Out:=
 let t:=hdT fin p.l
 if t.kind≠10 then some (.error (t.at_,4))
 else if (n:Int)<(arity fn).1∨(arity fn).2.1<(n:Int) then some (.error (name.at_,11))
 else if 46≤fn∧(p.out.getLast?.map fun x=>decide (x.kind=2∨x.kind=3))≠some true then some (.error (name.at_,4))
 else some (.ok (0,p.skip.put ⟨7,zeroV,zeroR,0,fn,n⟩))
def runP (fin:Int):Nat→Job→PS→Option Out
 |0,_,_=>none
 |f+1,.level k,p=>if k=5 then runP fin f .sign p else thenP (runP fin f (.level (k+1)) p) fun _ p=>runP fin f (.loop k) p
 |f+1,.loop k,p=>
  let t:=hdT fin p.l
  if t.kind=8∧bindsE t.num=k then thenP (runP fin f (.level (k+1)) p.skip) fun _ p=>runP fin f (.loop k) (p.put (nodeOp 6 t.num))
  else some (.ok (0,p))
 |f+1,.sign,p=>
  let t:=hdT fin p.l
  if t.kind=8∧t.num=2 then thenP (runP fin f .sign p.skip) fun _ p=>some (.ok (0,p.put (nodeOp 4 0)))
  else thenP (runP fin f .pct p) fun _ p=>
   let u:=hdT fin p.l
   if u.kind=8∧u.num=5 then thenP (runP fin f .sign p.skip) fun _ p=>some (.ok (0,p.put (nodeOp 6 5)))
   else some (.ok (0,p))
 |f+1,.pct,p=>thenP (runP fin f .prim p) fun _ p=>runP fin f .pctl p
 |f+1,.pctl,p=>
  let t:=hdT fin p.l
  if t.kind=8∧t.num=13 then runP fin f .pctl (p.skip.put (nodeOp 5 0)) else some (.ok (0,p))
 |f+1,.prim,p=>
  let t:=hdT fin p.l
  if 1≤t.kind∧t.kind≤4 then some (.ok (0,p.skip.put (litT t)))
  else if t.kind=5 then some (.ok (0,p.skip.put ⟨2,zeroV,t.rect,0,0,0⟩))
  else if t.kind=9 then thenP (runP fin f (.level 1) p.skip) fun _ p=>
   let u:=hdT fin p.l
   if u.kind≠10 then some (.error (u.at_,4)) else some (.ok (0,p.skip))
  else if t.kind=7 then
   if (functionE t.text).2≠0 then some (.error (t.at_,10))
   else
    let u:=hdT fin p.skip.l
    if u.kind≠9 then some (.error (u.at_,4))
    else if (hdT fin p.skip.skip.l).kind=10 then endCall fin t (functionE t.text).1 0 p.skip.skip
    else thenP (runP fin f (.args (functionE t.text).1 0) p.skip.skip) fun n p=>endCall fin t (functionE t.text).1 n p
  else some (.error (t.at_,4))
 |f+1,.args fn n,p=>
  let t:=hdT fin p.l
  let go:=fun (p:PS)=>if (hdT fin p.l).kind=11 then runP fin f (.args fn (n+1)) p.skip else some (.ok (n+1,p))
  if t.kind≠6 then thenP (runP fin f (.level 1) p) fun _ p=>go p
  else if (wideF fn n).1=false∨(wideF fn n).2≠0 then some (.error (t.at_,4))
  else go (p.skip.put ⟨3,zeroV,t.rect,0,0,0⟩)
def Job.c:Job→Nat
 | .level k=>(9 - k).toNat
 | .loop _=>1
 | .sign=>3
 | .pct=>2
 | .pctl=>1
 | .prim=>1
 | .args _ _=>9
def Job.fit:Job→Prop
 | .level k=>1≤k∧k≤5
 | .loop k=>1≤k∧k≤4
 |_=>True
def Job.eats:Job→Prop
 | .loop _=>False
 | .pctl=>False
 |_=>True
def Less (p:PS) (strict:Prop) (r:Out):Prop:= ∀ n p',r= .ok (n,p')→p'.l.length≤p.l.length∧(strict→p'.l.length<p.l.length)
def Ends (o:Option Out) (B:Out→Prop):Prop:= ∃ r,o=some r∧B r
theorem ends_ok {B:Out→Prop} {r:Out} (h:B r):Ends (some r) B:=⟨r,rfl,h⟩
theorem less_err {p:PS} {q:Prop} {e:Int × Int}:Less p q (.error e):=fun _ _ h=>by cases h
theorem less_ok {p p' :PS} {q:Prop} {n:Nat} (h:p'.l.length≤p.l.length) (hq:q→p'.l.length<p.l.length):Less p q (.ok (n,p')):=fun m p2 h2=>by
 cases h2
 exact ⟨h,hq⟩
theorem then_ends {o:Option Out} {k:Nat→PS→Option Out} {p:PS} {q:Prop} {B:Out→Prop} (h:Ends o (Less p q)) (he: ∀ e,B (.error e)) (hk: ∀ n p',p'.l.length≤p.l.length→(q→p'.l.length<p.l.length)→Ends (k n p') B):Ends (thenP o k) B:=by
 obtain ⟨r,rfl,hr⟩:=h
 cases r with
 |error e=>exact ⟨_,rfl,he e⟩
 |ok x=>
  obtain ⟨n,p'⟩:=x
  obtain ⟨h1,h2⟩:=hr n p' rfl
  exact hk n p' h1 h2
theorem hdT_ne {fin:Int} {l:List Tk} (h:(hdT fin l).kind≠0):0<l.length:=by
 cases l with
 |nil=>exact absurd rfl h
 |cons=>simp
theorem skip_len (p:PS):p.skip.l.length=p.l.length - 1:=by simp [PS.skip]
theorem put_len (p:PS) (n:Nd):(p.put n).l=p.l:=rfl
theorem endCall_ends {fin:Int} {name:Tk} {fn:Int} {n:Nat} {p p0:PS} {q:Prop} (h:p.l.length≤p0.l.length) (hq:0<p.l.length→q→p.l.length - 1<p0.l.length):Ends (endCall fin name fn n p) (Less p0 q):=by
 unfold endCall
 dsimp only
 split
 ·
  exact ends_ok less_err
 ·
  rename_i hk
  have hpos:=hdT_ne (fin:=fin) (l:=p.l) (by omega)
  split
  ·
   exact ends_ok less_err
  ·
   split
   ·
    exact ends_ok less_err
   ·
    refine ends_ok (less_ok ?_ fun hh=> ?_)
    ·
     rw [put_len,skip_len];omega
    ·
     rw [put_len,skip_len];exact hq hpos hh
theorem runP_ends (fin:Int): ∀ (f:Nat) (j:Job) (p:PS),j.fit→20*p.l.length+j.c≤f→Ends (runP fin f j p) (Less p j.eats):=by
 intro f
 induction f with
 |zero=>
  intro j p hj hf
  cases j with
  |level k=>obtain ⟨h1,h2⟩:=hj;simp only [Job.c] at hf;omega
  |_=>simp only [Job.c] at hf;omega
 |succ f ih=>
  intro j p hj hf
  cases j with
  |level k=>
   obtain ⟨h1,h2⟩:=hj
   simp only [Job.c] at hf
   rw [runP]
   split
   ·
    obtain ⟨r,hr,hl⟩:=ih .sign p trivial (by simp only [Job.c];omega)
    exact ⟨r,hr,hl⟩
   ·
    refine then_ends (ih (.level (k+1)) p ⟨by omega,by omega⟩ (by simp only [Job.c];omega)) (fun e=>less_err) fun n p' h3 h4=> ?_
    have h5:=h4 trivial
    obtain ⟨r,hr,hl⟩:=ih (.loop k) p' ⟨h1,by omega⟩ (by simp only [Job.c];omega)
    exact ⟨r,hr,fun m q hq=>⟨by have:=(hl m q hq).1;omega,fun _=>by have:=(hl m q hq).1;omega⟩⟩
  |loop k=>
   obtain ⟨h1,h2⟩:=hj
   simp only [Job.c] at hf
   rw [runP]
   split
   ·
    rename_i hk
    have hpos:=hdT_ne (fin:=fin) (l:=p.l) (by omega)
    have hs:=skip_len p
    refine then_ends (ih (.level (k+1)) p.skip ⟨by omega,by omega⟩ (by simp only [Job.c];omega)) (fun e=>less_err) fun n p' h3 h4=> ?_
    have h5:=h4 trivial
    obtain ⟨r,hr,hl⟩:=ih (.loop k) (p'.put (nodeOp 6 (hdT fin p.l).num)) ⟨h1,h2⟩ (by rw [put_len];simp only [Job.c];omega)
    exact ⟨r,hr,fun m q hq=>⟨by have:=(hl m q hq).1;rw [put_len] at this;omega,fun h=>h.elim⟩⟩
   ·
    exact ends_ok (less_ok (Nat.le_refl _) fun h=>h.elim)
  |sign=>
   simp only [Job.c] at hf
   rw [runP]
   dsimp only
   split
   ·
    rename_i hk
    have hpos:=hdT_ne (fin:=fin) (l:=p.l) (by omega)
    have hs:=skip_len p
    refine then_ends (ih .sign p.skip trivial (by simp only [Job.c];omega)) (fun e=>less_err) fun n p' h3 h4=> ?_
    have h5:=h4 trivial
    exact ends_ok (less_ok (by rw [put_len];omega) fun _=>by rw [put_len];omega)
   ·
    refine then_ends (ih .pct p trivial (by simp only [Job.c];omega)) (fun e=>less_err) fun n p' h3 h4=> ?_
    have h5:=h4 trivial
    split
    ·
     have hs:=skip_len p'
     refine then_ends (ih .sign p'.skip trivial (by simp only [Job.c];omega)) (fun e=>less_err) fun n p2 h6 h7=> ?_
     exact ends_ok (less_ok (by rw [put_len];omega) fun _=>by rw [put_len];omega)
    ·
     exact ends_ok (less_ok h3 fun _=>h5)
  |pct=>
   simp only [Job.c] at hf
   rw [runP]
   refine then_ends (ih .prim p trivial (by simp only [Job.c];omega)) (fun e=>less_err) fun n p' h3 h4=> ?_
   have h5:=h4 trivial
   obtain ⟨r,hr,hl⟩:=ih .pctl p' trivial (by simp only [Job.c];omega)
   exact ⟨r,hr,fun m q hq=>⟨by have:=(hl m q hq).1;omega,fun _=>by have:=(hl m q hq).1;omega⟩⟩
  |pctl=>
   simp only [Job.c] at hf
   rw [runP]
   split
   ·
    rename_i hk
    have hpos:=hdT_ne (fin:=fin) (l:=p.l) (by omega)
    have hs:=skip_len p
    obtain ⟨r,hr,hl⟩:=ih .pctl (p.skip.put (nodeOp 5 0)) trivial (by rw [put_len];simp only [Job.c];omega)
    exact ⟨r,hr,fun m q hq=>⟨by have:=(hl m q hq).1;rw [put_len] at this;omega,fun h=>h.elim⟩⟩
   ·
    exact ends_ok (less_ok (Nat.le_refl _) fun h=>h.elim)
  |prim=>
   simp only [Job.c] at hf
   rw [runP]
   dsimp only
   have hs:=skip_len p
   have hs2:=skip_len p.skip
   split
   ·
    rename_i hk
    have hpos:=hdT_ne (fin:=fin) (l:=p.l) (by omega)
    exact ends_ok (less_ok (by rw [put_len];omega) fun _=>by rw [put_len];omega)
   ·
    split
    ·
     rename_i hk
     have hpos:=hdT_ne (fin:=fin) (l:=p.l) (by omega)
     exact ends_ok (less_ok (by rw [put_len];omega) fun _=>by rw [put_len];omega)
    ·
     split
     ·
      rename_i hk
      have hpos:=hdT_ne (fin:=fin) (l:=p.l) (by omega)
      refine then_ends (ih (.level 1) p.skip ⟨by omega,by omega⟩ (by simp only [Job.c];omega)) (fun e=>less_err) fun n p' h3 h4=> ?_
      have h5:=h4 trivial
      have hs3:=skip_len p'
      split
      ·
       exact ends_ok less_err
      ·
       exact ends_ok (less_ok (by omega) fun _=>by omega)
     ·
      split
      ·
       rename_i hk
       have hpos:=hdT_ne (fin:=fin) (l:=p.l) (by omega)
       split
       ·
        exact ends_ok less_err
       ·
        split
        ·
         exact ends_ok less_err
        ·
         rename_i hk2
         have hpos2:=hdT_ne (fin:=fin) (l:=p.skip.l) (by omega)
         split
         ·
          exact endCall_ends (by omega) fun _ _=>by omega
         ·
          refine then_ends (ih (.args (functionE (hdT fin p.l).text).1 0) p.skip.skip trivial (by simp only [Job.c];omega)) (fun e=>less_err) fun n p' h3 h4=> ?_
          exact endCall_ends (by omega) fun _ _=>by omega
      ·
       exact ends_ok less_err
  |args fn n=>
   simp only [Job.c] at hf
   rw [runP]
   dsimp only
   have hgo: ∀ p' :PS,p'.l.length<p.l.length→Ends (if (hdT fin p'.l).kind=11 then runP fin f (.args fn (n+1)) p'.skip else some (.ok (n+1,p'))) (Less p (Job.args fn n).eats):=by
    intro p' hp
    have hs:=skip_len p'
    split
    ·
     obtain ⟨r,hr,hl⟩:=ih (.args fn (n+1)) p'.skip trivial (by simp only [Job.c];omega)
     exact ⟨r,hr,fun m q hq=>⟨by have:=(hl m q hq).1;omega,fun _=>by have:=(hl m q hq).1;omega⟩⟩
    ·
     exact ends_ok (less_ok (by omega) fun _=>hp)
   split
   ·
    refine then_ends (ih (.level 1) p ⟨by omega,by omega⟩ (by simp only [Job.c];omega)) (fun e=>less_err) fun m p' h3 h4=> ?_
    exact hgo p' (h4 trivial)
   ·
    rename_i hk
    have hpos:=hdT_ne (fin:=fin) (l:=p.l) (by omega)
    have hs:=skip_len p
    split
    ·
     exact ends_ok less_err
    ·
     exact hgo _ (by rw [put_len];omega)
end Go.SL
namespace Go.SL
open Go Go.Proofs
attribute [local irreducible] W WL WQ WG WA WX WLI WR WT VOp thn blk cutP scp retP endB FnAt FnIn
def TkV (v:Value) (A:Option Nat) (n cap k:Nat):Prop:= ∃ a:Option Addr,v= .slice a (n - k) (cap - k)∧(k<n→a=A.map fun g=>⟨g,k*8,none⟩)
def pB (g:Nat) (lv:Value) (A:Option Nat) (cap:Nat) (fin:Int) (toks:List Tk) (B:Option Nat) (cb:Nat) (out:List Nd):List Blk:=
 [.box g 293 [lv,.int .i64 fin,sl B out.length cb],.own A 295 8 toks.length cap (toks.flatMap encTk),.own B 174 11 out.length cb (out.flatMap encN)]
theorem TkV.next {P:Program} {t e:Nat} {v:Value} {A:Option Nat} {n cap k:Nat} [ht:Und P t (.slice e)] [hz:Size P e 8] (h:TkV v A n cap k) (hk:k<n) (hc:n≤cap):
  ∃ v',TkV v' A n cap (k+1)∧v'.oneCell' =true∧(∃ a m c,v' = .slice a m c)∧ ∀ {w0:World} {s:Slots} {H:List Blk} {ty:TypeId} {x r:Operand} {k' :IntKind},ev s x=some v→ev s r=some (.int k' 1)→VOp P w0 s H (.slice t x (some r) none none) ty v' :=by
 obtain ⟨a,rfl,ha⟩:=h
 refine ⟨.slice (if cap - k=1 then a else a.map (·.add (1*8))) (n - k - 1) (cap - k - 1),⟨if cap - k=1 then a else a.map (·.add (1*8)),?_,fun hk1=> ?_⟩,rfl,⟨_,_,_,rfl⟩,fun hx hr=>v_slice (lo:=1) (hi:=n - k) hx ⟨_,hr⟩ rfl (by omega) (by omega)⟩
 ·
  congr 1
 ·
  rw [if_neg (by omega),ha hk]
  cases A with
  |none=>rfl
  |some g=>(simp [addr_add])<;>omega
theorem hdT_get {fin:Int} {toks:List Tk} {k:Nat} (h:k<toks.length):hdT fin (toks.drop k)=toks[k]:=by
 rw [List.drop_eq_getElem_cons h];rfl
theorem hdT_end {fin:Int} {toks:List Tk} {k:Nat} (h:toks.length≤k):hdT fin (toks.drop k)={ zeroTk with at_:=fin }:=by
 rw [List.drop_of_length_le h];rfl
theorem pHead_at (g:Nat) (lv:Value) (A:Option Nat) (cap:Nat) (fin:Int) (toks:List Tk) (k:Nat) (hk:TkV lv A toks.length cap k) (x:Value) (w:World) (hr:Ro w g 0 [lv,.int .i64 fin,x])
  (ht:k<toks.length→ ∃ ga,A=some ga∧Ro w ga 0 (toks.flatMap encTk)):Pure Tryz.prog 206 [.pointer (some ⟨g,0,none⟩)] w (.agg (encTk (hdT fin (toks.drop k))).toArray):=by
 refine fn_at Tryz.func206 rfl Tryz.ntmps206 rfl ?_
 obtain ⟨a,rfl,ha⟩:=hk
 by_cases hlt:k<toks.length
 ·
  rw [hdT_get hlt]
  obtain ⟨ga,rfl,hra⟩:=ht hlt
  have ha' :=ha hlt
  subst ha'
  have hra' :Ro w ga (k*8) (encTk toks[k]):=by
   have:=hra.elem encTk_len k hlt
   rwa [Nat.zero_add] at this
  have hlen:0<toks.length - k:=by omega
  repeat' (first|((with_reducible apply wl_v);exact rfl;(with_reducible apply v_load_ro (o:=0) (off:=0));exact hr;exact rfl;exact rfl)|((with_reducible apply wl_v);exact rfl;(with_reducible apply v_load_ro (o:=0) (off:=1));exact hr;exact rfl;exact rfl)|((with_reducible apply wl_v);exact rfl;(with_reducible apply v_indexAddr (j:=0));exact rfl;exact rfl;exact hlen)|((with_reducible apply wl_v);exact rfl;(with_reducible apply v_loads_ro (o:=k*8) (off:=0*8));exact hra';(iterate 3 exact rfl))|refine sT ?_|refine sM fun _=> ?_|(refine sC ?_ ?_<;>intro hb<;>try omega)|fail)
  all_goals first|(exfalso;omega)|skip
  (refine eRC ?_)
  rfl
 ·
  rw [hdT_end (by omega)]
  repeat' (first|((with_reducible apply wl_v);exact rfl;(with_reducible apply v_load_ro (o:=0) (off:=0));exact hr;exact rfl;exact rfl)|((with_reducible apply wl_v);exact rfl;(with_reducible apply v_load_ro (o:=0) (off:=1));exact hr;exact rfl;exact rfl)|refine sT ?_|refine sM fun _=> ?_|(refine sC ?_ ?_<;>intro hb<;>try omega)|fail)
  all_goals first|(exfalso;omega)|skip
  (refine eRC ?_)
  rfl
theorem pHead_in {g:Nat} {lv:Value} {A:Option Nat} {cap:Nat} {fin:Int} {toks:List Tk} {k:Nat} (hk:TkV lv A toks.length cap k) {B:Option Nat} {cb:Nat} {out:List Nd} {H:List Blk} {w0:World} (hH:MSub (pB g lv A cap fin toks B cb out) H) (w:World) (hm:Mem w0 w H):
  Pure Tryz.prog 206 [.pointer (some ⟨g,0,none⟩)] w (.agg (encTk (hdT fin (toks.drop k))).toArray):=by
 have hm' :=hH.use hm
 refine pHead_at g lv A cap fin toks k hk (sl B out.length cb) w (Ro.of_box hm' .hd) fun hlt=> ?_
 obtain ⟨_,_,_,h4⟩:=(hm'.on _ (In.tl .hd:In (.own A 295 8 toks.length cap (toks.flatMap encTk)) _).mem).1
 cases A with
 |none=>obtain ⟨h5,_⟩:=h4;omega
 |some ga=>exact ⟨ga,rfl,Ro.of_own hm' (In.tl .hd)⟩
theorem pSkip_at (g:Nat) (lv:Value) (A:Option Nat) (cap:Nat) (fin:Int) (toks:List Tk) (k:Nat) (hv:TkV lv A toks.length cap k) (hk:k<toks.length) (hc:toks.length≤cap) (B:Option Nat) (cb:Nat) (out:List Nd) (R:List Blk) (w0:World):
  FnIn Tryz.prog 292 [.pointer (some ⟨g,0,none⟩)] w0 (pB g lv A cap fin toks B cb out++R) fun v H=>v= .tuple #[]∧ ∃ lv',TkV lv' A toks.length cap (k+1)∧H=pB g lv' A cap fin toks B cb out++R:=by
 refine fn_in Tryz.func292 rfl Tryz.ntmps292 rfl ?_
 obtain ⟨lv',h1,h3,⟨a',m',c',rfl⟩,h2⟩:=hv.next hk hc (P:=Tryz.prog) (t:=286) (e:=295)
 obtain ⟨a,rfl,ha⟩:=hv
 repeat' (first|((with_reducible apply wl_v (d:=7));exact rfl;exact h2 rfl rfl)|refine sT ?_|refine sM fun _=> ?_|(refine sC ?_ ?_<;>intro hb<;>try omega)|fail)
 exact ret0 (.inr rfl) rfl (.refl _) ⟨rfl,_,h1,rfl⟩
theorem pPut_at (n:Nd) (g:Nat) (lv:Value) (A:Option Nat) (cap:Nat) (fin:Int) (toks:List Tk) (B:Option Nat) (cb:Nat) (out:List Nd) (hlen:out.length≤1000000) (R:List Blk) (w0:World):
  FnIn Tryz.prog 293 [.pointer (some ⟨g,0,none⟩),.agg (encN n).toArray] w0 (pB g lv A cap fin toks B cb out++R) fun v H=>v= .tuple #[]∧ ∃ B' cb',H=pB g lv A cap fin toks B' cb' (out++ [n])++R:=by
 refine fn_in Tryz.func293 rfl Tryz.ntmps293 rfl ?_
 repeat' (first|refine sT ?_|refine sM fun _=> ?_|(refine sC ?_ ?_<;>intro hb<;>try omega)|fail)
 refine w_drawA 11 rfl (by kernel_rfl) ?_
 ((with_reducible apply wa_pure (i:=0));exact rfl;exact rfl;decide+kernel;decide+kernel;decide+kernel;exact nP;(intro _ _;exact vP))
 ((with_reducible apply wa_pure (i:=1));exact rfl;exact rfl;decide+kernel;decide+kernel;decide+kernel;exact nP;(intro _ _;exact vP))
 ((with_reducible apply wa_pure (i:=2));exact rfl;exact rfl;decide+kernel;decide+kernel;decide+kernel;exact nP;(intro _ _;exact vP))
 ((with_reducible apply wa_pure (i:=3));exact rfl;exact rfl;decide+kernel;decide+kernel;decide+kernel;exact nP;(intro _ _;exact vP))
 repeat' (first|((with_reducible apply wa_two (i:=4) (j:=5));exact rfl;exact rfl;decide+kernel)|((with_reducible apply wa_two (i:=4) (j:=6));exact rfl;exact rfl;decide+kernel)|((with_reducible apply wa_one (i:=4));exact rfl;decide+kernel)|((with_reducible apply wa_one (i:=5));exact rfl;decide+kernel)|((with_reducible apply wa_one (i:=6));exact rfl;decide+kernel)|((with_reducible apply wa_one (i:=7));exact rfl;decide+kernel)|((with_reducible apply wa_one (i:=8));exact rfl;decide+kernel)|((with_reducible apply wa_one (i:=9));exact rfl;decide+kernel)|((with_reducible apply wa_one (i:=10));exact rfl;decide+kernel)|((with_reducible apply wa_done);decide+kernel)|((with_reducible apply wl_append1);(iterate 3 exact rfl);exact pK;exact pK;exact rfl;(simp [encN,Value.oneCell']);omega;(simp only [maxLen];omega);intro g8 c8)|refine sT ?_|refine sM fun _=> ?_|(refine sC ?_ ?_<;>intro hb<;>try omega)|fail)
 all_goals
  refine ret0 eIO rfl (H' :=pB g lv A cap fin toks (some g8) c8 (out++ [n])++R) ?_ ⟨rfl,_,_,rfl⟩
  simp only [pB,List.length_append,List.length_singleton,List.flatMap_append,List.flatMap_cons,List.flatMap_nil,List.append_nil,List.cons_append,List.nil_append]
  exact mS
def faultV (e:Int × Int):Value:= .iface 290 (.agg #[.int .i64 e.1,.int .i64 e.2])
theorem pFail_at (x:Value) (at_ e:Int) (H:List Blk) (w0:World) (R:Value→List Blk→Prop):
  FnP Tryz.prog 207 [x,.int .i64 at_,.int .i64 e] w0 H R fun v H' =>v=faultV (at_,e)∧H' =H:=by
 refine fn_p Tryz.func207 rfl Tryz.ntmps207 rfl ?_
 repeat' (first|((with_reducible apply wl_v);exact rfl;(with_reducible apply v_makeIface);(intro m;exact fun h=>by cases h);exact rfl)|((with_reducible apply wl_panic);exact rfl)|refine sT ?_|refine sM fun _=> ?_|(refine sC ?_ ?_<;>intro hb<;>try omega)|fail)
 exact ret_p (.refl _) ⟨rfl,rfl⟩
theorem pIs_at (op:Int) {g:Nat} {lv:Value} {A:Option Nat} {cap:Nat} {fin:Int} {toks:List Tk} {k:Nat} (hk:TkV lv A toks.length cap k) {B:Option Nat} {cb:Nat} {out:List Nd} {H:List Blk} {w0:World} (hH:MSub (pB g lv A cap fin toks B cb out) H) (w:World) (hm:Mem w0 w H):
  Pure Tryz.prog 315 [.pointer (some ⟨g,0,none⟩),.int .i64 op] w (.bool (decide ((hdT fin (toks.drop k)).kind=8∧(hdT fin (toks.drop k)).num=op))):=by
 have hm0:=hH.use hm
 refine fn_at Tryz.func315 rfl Tryz.ntmps315 rfl ?_
 have hh: ∀ w' H',Mem w w' H' →Pure Tryz.prog 206 [.pointer (some ⟨g,0,none⟩)] w' (.agg (encTk (hdT fin (toks.drop k))).toArray):=fun w' H' hm' =>by
  refine pHead_at g lv A cap fin toks k hk (sl B out.length cb) w' ((Ro.of_box hm0 .hd).next hm') fun hlt=> ?_
  obtain ⟨_,_,_,h4⟩:=(hm0.on _ (In.tl .hd:In (.own A 295 8 toks.length cap (toks.flatMap encTk)) _).mem).1
  cases A with
  |none=>obtain ⟨h5,_⟩:=h4;omega
  |some ga=>exact ⟨ga,rfl,(Ro.of_own hm0 (In.tl .hd)).next hm'⟩
 generalize hdT fin (toks.drop k)=t at hh
 repeat' (first|((with_reducible apply wl_callp);exact rfl;exact rfl;(intro w' hm';exact hh w' _ hm'))|refine sT ?_|refine sM fun _=> ?_|(refine sC ?_ ?_<;>intro hb<;>try omega)|fail)
 all_goals ((refine rT1 ?_);simp_all)
theorem pBinds_at (op:Int) (w:World):Pure Tryz.prog 291 [.int .i64 op] w (.tuple #[.int .i64 (bindsE op),.bool (decide (op=5)),.int .i64 (if bindsE op=0 then 2 else 0)]):=by
 refine fn_at Tryz.func291 rfl Tryz.ntmps291 rfl ?_
 repeat' (first|refine sT ?_|refine sM fun _=> ?_|(refine sC ?_ ?_<;>intro hb<;>try omega)|fail)
 all_goals ((refine rT3 ?_);simp_all [bindsE];try omega)
end Go.SL
