/-
  Lemmas and walks, put together: Ye.
-/
import Derived.Test.YtfeicpjdgjflaaaGreatDoorKv27
import Derived.Test.YtfeicpjdgjflaaaGreatDoorKv31
set_option linter.unusedSimpArgs false
set_option linter.unusedVariables false
set_option maxRecDepth 20000
namespace Go.SL
open Go
theorem PlacedN.at {r:Nat→Nat→Bool}: ∀ {S:List Nat},PlacedN r S→ ∀ i (hi:i<S.length),(∀ q (hq:q<S.length),i≤q→r S[i] S[q]=false)∧ ∀ k (hk:k<S.length),i≤k→(∀ q (hq:q<S.length),i≤q→r S[k] S[q]=false)→S[i]≤S[k]
 | [],_,i,hi=>absurd hi (Xr _)
 |a::S,h,0,hi=>by
  obtain ⟨h1,h2,h3⟩:=h;refine ⟨fun q hq _=>h1 _ (VL hq),fun k hk _ hf=>h2 _ (VL hk) fun b hb=> ?_⟩;obtain ⟨q,hq,rfl⟩:=WM.1 hb;exact hf q hq (Vt _)
 |a::S,h,i+1,hi=>by
  obtain ⟨h1,h2,h3⟩:=h;have hi' :i<S.length:=by simpa using hi
  obtain ⟨h4,h5⟩:=PlacedN.at h3 i hi';refine ⟨fun q hq hiq=> ?_,fun k hk hik hf=> ?_⟩
  ·obtain ⟨q,rfl⟩: ∃ p,q=p+1:=⟨q - 1,by omega⟩;exact h4 q (by simpa using hq) (by omega)
  ·obtain ⟨k,rfl⟩: ∃ p,k=p+1:=⟨k - 1,by omega⟩;exact h5 k (by simpa using hk) (by omega) fun q hq hiq=>hf (q+1) (by simpa using hq) (by omega)
section
variable {G:Gr}
open Classical in
theorem MG (hG:GrOk G) {a b:Nat} (hb:b<G.length) (h:a<b):bn (jq (au G) a) (jq (au G) b)=true:=by
 obtain ⟨h1,e1⟩:=kA (show a<G.length by omega);obtain ⟨h2,e2⟩:=kA hb;rw [e1,e2];have h3:=XF.1 hG.sort a b (by omega) hb h;simpa [au] using h3
theorem RO (hG:GrOk G) {a b:Nat} (hb:b<G.length) (h:a≤b):bn (jq (au G) b) (jq (au G) a)=false:=by
 rcases Nat.lt_or_eq_of_le h with h|rfl
 ·exact kD (MG hG hb h)
 ·exact nY _
theorem SomeOk.placed {l:List Nat} (h:SomeOk G l):PlacedN (aQ G G.length) (dP G l):=by
 have h1:=h.sub.placed;rwa [h.eq] at h1
theorem SomeOk.sort_lt {l:List Nat} (h:SomeOk G l) {i:Nat} (hi:i∈dP G l):i<G.length:=h.lt i (h.sort_perm.mem_iff.1 hi)
theorem SomeOk.plc (hG:GrOk G) (hl:G.length≤900) {l:List Nat} (h:SomeOk G l):PlcF G (bQ (au G) (dP G l)):=by
 have hlt:=fun k (hk:k<(dP G l).length)=>h.sort_lt (VL hk);have hat: ∀ k (hk:k<(bQ (au G) (dP G l)).length),∃ hk' :k<(dP G l).length,(bQ (au G) (dP G l))[k]=jq (au G) (dP G l)[k]:=fun k hk=>⟨by rwa [cQ] at hk,by simp [bQ]⟩;have hp:=h.placed.at;refine ⟨?_,fun a ha=> ?_,fun i q hi hq hiq=> ?_,fun i k hi hk hik hf=> ?_⟩
 ·rw [cQ,h.sort_len];have h1:=dV l (List.range G.length) h.nodup fun x hx=>VT.2 (h.lt x hx);rw [We] at h1;omega
 ·obtain ⟨i,hi,rfl⟩:=VM.1 ha;exact si hG (h.sort_lt hi)
 ·obtain ⟨hi',e1⟩:=hat i hi;obtain ⟨hq',e2⟩:=hat q hq;rw [e1,e2,sq (hlt i hi') (hlt q hq')];exact (hp i hi').1 q hq' hiq
 ·obtain ⟨hi',e1⟩:=hat i hi;obtain ⟨hk',e2⟩:=hat k hk;rw [e1,e2];refine RO hG (hlt k hk') ((hp i hi').2 k hk' hik fun q hq hiq=> ?_);have h1:=hf q (by rw [cQ];exact hq) hiq;obtain ⟨_,e3⟩:=hat q (by rw [cQ];exact hq);rwa [e2,e3,sq (hlt k hk') (hlt q hq)] at h1
end
end Go.SL
