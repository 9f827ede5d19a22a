/-
  Lemmas and walks, put together: G2 Lp K2 Sm L3 La.
-/
import Derived.Test.YtpohljcebgacjaaGreatDoorKe33
set_option linter.unusedSimpArgs false
set_option linter.unusedVariables false
set_option maxRecDepth 20000
namespace Go.SL
open Go Go.Proofs
attribute [local irreducible] W WL WQ WG WA WX WLI WR WT WC VOp RW thn blk cutP scp retP retPP endB FnAt FnP ceP
theorem MSub.mid (A B C : List Blk) : MSub (A ++ C) (A ++ (B ++ C)) := ⟨B, by
 rw [List.append_assoc]
 exact List.Perm.append_left A List.perm_append_comm⟩
theorem rd_any {f : FuncId} {args : List Value} {w0 : World} {B H : List Blk} {φ : Value → Option Nat → Nat → Prop} {t sz n : Nat} {cs : List Value}
  (h : ∀ F, FnIn Tryz.prog f args w0 (B ++ F) fun v H' => ∃ A cap, φ v A cap ∧ H' = .own A t sz n cap cs :: (B ++ F)) (hs : MSub B H) :
  FnIn Tryz.prog f args w0 H fun v H' => ∃ A cap, φ v A cap ∧ H' = .own A t sz n cap cs :: H := by
 obtain ⟨F, hp⟩ := hs
 refine ((h F).msub (MSub.of_perm hp)).re ?_
 rintro v H' ⟨A, cap, hv, rfl⟩
 exact ⟨_, MSub.of_perm (hp.symm.cons _), A, cap, hv, rfl⟩
section
variable {R : List Blk} {E : List En} {clock : Nat} {G : Gr} (h : GOk R E clock G) (gg gm : Nat) {H : List Blk} (hs : MSub (gB gg gm (E.map En.m) clock ++ R) H) (w0 : World)
include h hs
theorem GOk.uses_any (c : Rf) : FnIn Tryz.prog 21 [.pointer (some ⟨gg, 0, none⟩), keyF c] w0 H fun v H' => ∃ A cap, v = sl A (usesG G c).length cap ∧ H' = .own A 45 6 (usesG G c).length cap ((usesG G c).flatMap encU) :: H := by
 refine rd_any (φ := fun v A cap => v = sl A (usesG G c).length cap) (fun F => ?_) hs
 have h1 := Uses_in gg gm clock E c (R ++ F) w0 (fun e he => (h.en e he).sub (MSub.appL R F))
 rw [h.uses] at h1
 rw [List.append_assoc]
 exact h1
theorem GOk.tree_any (c : Rf) : FnIn Tryz.prog 29 [.pointer (some ⟨gg, 0, none⟩), keyF c] w0 H fun v H' => ∃ A cap, v = .tuple #[sl A (treeG G c).length cap, .bool (isG G c)] ∧ H' = .own A 136 11 (treeG G c).length cap ((treeG G c).flatMap encN) :: H := by
 refine rd_any (φ := fun v A cap => v = .tuple #[sl A (treeG G c).length cap, .bool (isG G c)]) (fun F => ?_) hs
 have h1 := Tree_in gg gm clock E c (R ++ F) w0 (fun e he => (h.en e he).sub (MSub.appL R F))
 rw [h.tree, h.is] at h1
 rw [List.append_assoc]
 exact h1
variable (hl : G.length ≤ 900)
include hl
theorem GOk.formulas_any : FnIn Tryz.prog 17 [.pointer (some ⟨gg, 0, none⟩)] w0 H fun v H' => ∃ A cap, v = sl A (keysG G).length cap ∧ H' = .own A 38 2 (keysG G).length cap ((keysG G).flatMap encF) :: H := by
 refine rd_any (φ := fun v A cap => v = sl A (keysG G).length cap) (fun F => ?_) hs
 have h1 := Formulas_in gg gm clock (E.map En.m) h.ok (by rw [List.length_map, h.len]; omega) (R ++ F) w0
 rw [h.forms, show (E.map En.m).length = (keysG G).length by rw [List.length_map, h.len, keysG, List.length_map]] at h1
 rw [List.append_assoc]
 exact h1
theorem GOk.edges_any : FnIn Tryz.prog 23 [.pointer (some ⟨gg, 0, none⟩)] w0 H fun v H' => ∃ A cap, v = sl A (edgesG G).length cap ∧ H' = .own A 70 4 (edgesG G).length cap ((edgesG G).flatMap encFF) :: H := by
 refine rd_any (φ := fun v A cap => v = sl A (edgesG G).length cap) (fun F => ?_) hs
 have h1 := Edges_in gg gm clock E h.ok (by rw [h.len]; omega) (R ++ F) w0 (fun e he => (h.en e he).sub (MSub.appL R F))
 rw [h.edges] at h1
 rw [List.append_assoc]
 exact h1
variable (hG : GrOk G)
include hG
theorem GOk.users_any (r : Rct) : FnIn Tryz.prog 16 [.pointer (some ⟨gg, 0, none⟩), .agg (encR r).toArray] w0 H fun v H' => ∃ A cap, v = sl A (usersG G r).length cap ∧ H' = .own A 38 2 (usersG G r).length cap ((usersG G r).flatMap encF) :: H := by
 refine rd_any (φ := fun v A cap => v = sl A (usersG G r).length cap) (fun F => ?_) hs
 have h1 := Users_in gg gm clock E r h.ok (by rw [h.len]; omega) (Nat.le_trans (h.allLen hG) (by omega)) (R ++ F) w0 (fun e he => (h.en e he).sub (MSub.appL R F))
 rw [h.users] at h1
 rw [List.append_assoc]
 exact h1
end
theorem RGOk.look {R : List Blk} {Q : List En} {G : Gr} (h : RGOk R Q G) (c : Rf) : (findE Q c).map (fun e => (e.tree, e.uses)) = lookG G c := by
 rw [lookG, ← h.rel, findE, List.find?_map, Option.map_map]
 rfl
theorem RGOk.fuses {R : List Blk} {Q : List En} {G : Gr} (h : RGOk R Q G) (c : Rf) : (foundE Q c).uses = usesG G c := by
 rw [usesG, ← h.look c, foundE]
 cases findE Q c <;> rfl
theorem RGOk.ftree {R : List Blk} {Q : List En} {G : Gr} (h : RGOk R Q G) (c : Rf) : (foundE Q c).tree = treeG G c := by
 rw [treeG, ← h.look c, foundE]
 cases findE Q c <;> rfl
theorem RGOk.fis {R : List Blk} {Q : List En} {G : Gr} (h : RGOk R Q G) (c : Rf) : (findE Q c).isSome = isG G c := by
 rw [isG, ← h.look c]
 cases findE Q c <;> rfl
section
variable {R : List Blk} {Q : List En} {G : Gr} (h : RGOk R Q G) (hl : G.length ≤ 900) (gr : Nat) (Ar : Option Nat) (cr : Nat) {H : List Blk} (hs : MSub (rgB gr Ar cr Q ++ R) H) (w0 : World)
include h hl hs
theorem RGOk.uses_any (c : Rf) : FnIn Tryz.prog 33 [.pointer (some ⟨gr, 0, none⟩), keyF c] w0 H fun v H' => ∃ A cap, v = sl A (usesG G c).length cap ∧ H' = .own A 45 6 (usesG G c).length cap ((usesG G c).flatMap encU) :: H := by
 refine rd_any (φ := fun v A cap => v = sl A (usesG G c).length cap) (fun F => ?_) hs
 have h1 := rUses_in gr Ar cr Q c (R ++ F) w0 (fun e he => (h.en e he).sub (MSub.appL R F)) (by rw [h.len]; omega)
 rw [h.fuses] at h1
 rw [List.append_assoc]
 exact h1
theorem RGOk.tree_any (c : Rf) : FnIn Tryz.prog 30 [.pointer (some ⟨gr, 0, none⟩), keyF c] w0 H fun v H' => ∃ A cap, v = .tuple #[sl A (treeG G c).length cap, .bool (isG G c)] ∧ H' = .own A 136 11 (treeG G c).length cap ((treeG G c).flatMap encN) :: H := by
 refine rd_any (φ := fun v A cap => v = .tuple #[sl A (treeG G c).length cap, .bool (isG G c)]) (fun F => ?_) hs
 have h1 := rTree_in gr Ar cr Q c (R ++ F) w0 (fun e he => (h.en e he).sub (MSub.appL R F)) (by rw [h.len]; omega)
 rw [h.ftree, h.fis] at h1
 rw [List.append_assoc]
 exact h1
theorem RGOk.formulas_any : FnIn Tryz.prog 84 [.pointer (some ⟨gr, 0, none⟩)] w0 H fun v H' => ∃ A cap, v = sl A (keysG G).length cap ∧ H' = .own A 38 2 (keysG G).length cap ((keysG G).flatMap encF) :: H := by
 refine rd_any (φ := fun v A cap => v = sl A (keysG G).length cap) (fun F => ?_) hs
 have h1 := rFormulas_in gr Ar cr Q (R ++ F) w0 (by rw [h.len]; omega)
 rw [h.keys] at h1
 rw [List.append_assoc]
 exact h1
theorem RGOk.users_any (r : Rct) : FnIn Tryz.prog 35 [.pointer (some ⟨gr, 0, none⟩), .agg (encR r).toArray] w0 H fun v H' => ∃ A cap, v = sl A (usersG G r).length cap ∧ H' = .own A 38 2 (usersG G r).length cap ((usersG G r).flatMap encF) :: H := by
 refine rd_any (φ := fun v A cap => v = sl A (usersG G r).length cap) (fun F => ?_) hs
 have h1 := rUsers_in gr Ar cr Q r (R ++ F) w0 (fun e he => (h.en e he).sub (MSub.appL R F)) (by rw [h.len]; omega)
 rw [h.users] at h1
 rw [List.append_assoc]
 exact h1
variable (hG : GrOk G)
include hG
theorem RGOk.edges_any : FnIn Tryz.prog 85 [.pointer (some ⟨gr, 0, none⟩)] w0 H fun v H' => ∃ A cap, v = sl A (edgesG G).length cap ∧ H' = .own A 70 4 (edgesG G).length cap ((edgesG G).flatMap encFF) :: H := by
 refine rd_any (φ := fun v A cap => v = sl A (edgesG G).length cap) (fun F => ?_) hs
 have h1 := rEdges_in gr Ar cr Q (R ++ F) w0 (fun e he => (h.en e he).sub (MSub.appL R F)) (by rw [h.len]; omega)
 rw [h.edges hG] at h1
 rw [List.append_assoc]
 exact h1
end
structure Gp where
 gg : Nat
 gm : Nat
 E : List En
 clock : Nat
 gr : Nat
 A : Option Nat
 cap : Nat
 Q : List En
 R : List Blk
def Gp.a (x : Gp) : List Blk := gB x.gg x.gm (x.E.map En.m) x.clock
def Gp.b (x : Gp) : List Blk := rgB x.gr x.A x.cap x.Q
def Gp.H (x : Gp) : List Blk := x.a ++ (x.b ++ x.R)
def Gp.pa (x : Gp) : Value := .pointer (some ⟨x.gg, 0, none⟩)
def Gp.pb (x : Gp) : Value := .pointer (some ⟨x.gr, 0, none⟩)
structure Gp.ok (x : Gp) (G : Gr) : Prop where
 a : GOk x.R x.E x.clock G
 b : RGOk x.R x.Q G
 g : GrOk G
def Gs.p (x : Gs) : Gp := ⟨x.gg, x.gm, x.E, x.clock, x.gr, x.A, x.cap, x.Q, x.R1 ++ x.R2⟩
theorem Gs.p_ok {x : Gs} {G : Gr} (h : x.ok G) : x.p.ok G := ⟨h.a.sub (MSub.appL _ _), h.b.sub (MSub.appR _ _), h.g⟩
theorem Gp.subA (x : Gp) : MSub (gB x.gg x.gm (x.E.map En.m) x.clock ++ x.R) x.H := MSub.mid _ _ _
theorem Gp.subB (x : Gp) : MSub (rgB x.gr x.A x.cap x.Q ++ x.R) x.H := MSub.appR _ _
theorem Gp.permC (x : Gp) (F : List Blk) : (F ++ x.H).Perm (x.a ++ (x.b ++ (x.R ++ F))) := by
 refine List.perm_append_comm.trans ?_
 unfold Gp.H
 simp only [List.append_assoc]
 exact .refl _
theorem Gp.permD (x : Gp) (F : List Blk) : (F ++ x.H).Perm (x.b ++ (x.a ++ (x.R ++ F))) := (x.permC F).trans (List.perm_append_comm_assoc x.a x.b _)
theorem Gp.permA (x : Gp) (F : List Blk) : (F ++ x.H).Perm (x.a ++ (x.R ++ (x.b ++ F))) := (x.permC F).trans ((List.perm_append_comm_assoc x.b x.R F).append_left x.a)
theorem Gp.permB (x : Gp) (F : List Blk) : (F ++ x.H).Perm (x.b ++ (x.R ++ (x.a ++ F))) := (x.permD F).trans ((List.perm_append_comm_assoc x.a x.R F).append_left x.b)
theorem Gp.set (x : Gp) (G : Gr) (h : x.ok G) (c : Rf) (i : ByteArray) (F : List Blk) (w0 : World) (hW : Words w0) :
  FnIn Tryz.prog 27 [x.pa, keyF c, .string i] w0 (F ++ x.H) fun v H => v = .int .i64 (setG G c i).2 ∧ ∃ E' clock' R', H = F ++ ({ x with E := E', clock := clock', R := R' } : Gp).H ∧ MSub x.R R' ∧ GOk R' E' clock' (setG G c i).1 := by
 refine (FnIn.msub (Set_inF x.gg x.gm x.clock x.E G c i x.R (x.b ++ F) w0 h.a hW) (MSub.of_perm (x.permA F))).re ?_
 rintro v H ⟨hv, E', clock', R', rfl, hs, hG⟩
 exact ⟨F ++ ({ x with E := E', clock := clock', R := R' } : Gp).H, MSub.of_perm (Gp.permA { x with E := E', clock := clock', R := R' } F).symm, hv, E', clock', R', rfl, hs, hG⟩
theorem Gp.rset (x : Gp) (G : Gr) (h : RGOk x.R x.Q G) (hs : SortG G) (hl : G.length ≤ 900) (c : Rf) (i : ByteArray) (F : List Blk) (w0 : World) :
  FnIn Tryz.prog 28 [x.pb, keyF c, .string i] w0 (F ++ x.H) fun v H => v = .int .i64 (setG G c i).2 ∧ ∃ A' cap' Q' R', H = F ++ ({ x with A := A', cap := cap', Q := Q', R := R' } : Gp).H ∧ MSub x.R R' ∧ RGOk R' Q' (setG G c i).1 := by
 refine (FnIn.msub (rSet_inF x.gr x.A x.cap x.Q G c i x.R (x.a ++ F) w0 h hs (by rw [h.len]; omega)) (MSub.of_perm (x.permB F))).re ?_
 rintro v H ⟨hv, A', cap', Q', R', rfl, hss, hG⟩
 exact ⟨F ++ ({ x with A := A', cap := cap', Q := Q', R := R' } : Gp).H, MSub.of_perm (Gp.permB { x with A := A', cap := cap', Q := Q', R := R' } F).symm, hv, A', cap', Q', R', rfl, hss, hG⟩
theorem Gp.swap (x y : Gp) (hR : x.R = y.R) (B : List Blk) : ((B ++ (x.a ++ x.b)) ++ y.H).Perm ((B ++ (y.a ++ y.b)) ++ x.H) := by
 unfold Gp.H
 rw [hR]
 have e : ∀ p q r s : List Blk, (B ++ (p ++ q)) ++ (r ++ (s ++ y.R)) = B ++ ((p ++ q) ++ ((r ++ s) ++ y.R)) := fun p q r s => by simp only [List.append_assoc]
 rw [e, e]
 exact List.Perm.append_left B (List.perm_append_comm_assoc _ _ _)
theorem Gp.copyA (x : Gp) (G : Gr) (h : GOk x.R x.E x.clock G) (F : List Blk) (w0 : World) :
  FnIn Tryz.prog 41 [x.pa] w0 (F ++ x.H) fun v H => ∃ gc gm2 E2 clock2 R2, v = .pointer (some ⟨gc, 0, none⟩) ∧ H = (gB gc gm2 (E2.map En.m) clock2 ++ F) ++ ({ x with R := R2 } : Gp).H ∧ MSub x.R R2 ∧ GOk R2 E2 clock2 G := by
 refine (FnIn.msub (Copy_inF x.gg x.gm x.clock x.E G x.R (x.b ++ F) w0 h) (MSub.of_perm (x.permA F))).re ?_
 rintro v H ⟨gc, gm2, E2, clock2, R2, hv, rfl, hs, hG⟩
 refine ⟨_, MSub.of_perm ?_, gc, gm2, E2, clock2, R2, hv, rfl, hs, hG⟩
 rw [List.append_assoc]
 exact (Gp.permA { x with R := R2 } F).symm.append_left _
theorem Gp.copyB (x : Gp) (G : Gr) (h : RGOk x.R x.Q G) (hl : G.length ≤ 900) (F : List Blk) (w0 : World) :
  FnIn Tryz.prog 43 [x.pb] w0 (F ++ x.H) fun v H => ∃ g' A' cap', v = .pointer (some ⟨g', 0, none⟩) ∧ H = (rgB g' A' cap' x.Q ++ F) ++ x.H := by
 refine (FnIn.msub (rCopy_in x.gr x.A x.cap x.Q (x.a ++ (x.R ++ F)) w0 (by rw [h.len]; omega)) (MSub.of_perm (x.permD F))).re ?_
 rintro v H ⟨g', A', cap', hv, rfl⟩
 refine ⟨_, MSub.of_perm ?_, g', A', cap', hv, rfl⟩
 rw [List.append_assoc]
 exact (Gp.permD x F).symm.append_left _
section
variable (x : Gp) (G : Gr) (h : x.ok G) {H : List Blk} (hs : MSub x.H H) (w0 : World)
include h hs
theorem Gp.usesA (c : Rf) : FnIn Tryz.prog 21 [x.pa, keyF c] w0 H fun v H' => ∃ A cap, v = sl A (usesG G c).length cap ∧ H' = .own A 45 6 (usesG G c).length cap ((usesG G c).flatMap encU) :: H := h.a.uses_any x.gg x.gm (MSub.trans x.subA hs) w0 c
theorem Gp.treeA (c : Rf) : FnIn Tryz.prog 29 [x.pa, keyF c] w0 H fun v H' => ∃ A cap, v = .tuple #[sl A (treeG G c).length cap, .bool (isG G c)] ∧ H' = .own A 136 11 (treeG G c).length cap ((treeG G c).flatMap encN) :: H := h.a.tree_any x.gg x.gm (MSub.trans x.subA hs) w0 c
variable (hl : G.length ≤ 900)
include hl
theorem Gp.formulas : FnIn Tryz.prog 17 [x.pa] w0 H fun v H' => ∃ A cap, v = sl A (keysG G).length cap ∧ H' = .own A 38 2 (keysG G).length cap ((keysG G).flatMap encF) :: H := h.a.formulas_any x.gg x.gm (MSub.trans x.subA hs) w0 hl
theorem Gp.edges : FnIn Tryz.prog 23 [x.pa] w0 H fun v H' => ∃ A cap, v = sl A (edgesG G).length cap ∧ H' = .own A 70 4 (edgesG G).length cap ((edgesG G).flatMap encFF) :: H := h.a.edges_any x.gg x.gm (MSub.trans x.subA hs) w0 hl
theorem Gp.users (r : Rct) : FnIn Tryz.prog 16 [x.pa, .agg (encR r).toArray] w0 H fun v H' => ∃ A cap, v = sl A (usersG G r).length cap ∧ H' = .own A 38 2 (usersG G r).length cap ((usersG G r).flatMap encF) :: H := h.a.users_any x.gg x.gm (MSub.trans x.subA hs) w0 hl h.g r
theorem Gp.usesB (c : Rf) : FnIn Tryz.prog 33 [x.pb, keyF c] w0 H fun v H' => ∃ A cap, v = sl A (usesG G c).length cap ∧ H' = .own A 45 6 (usesG G c).length cap ((usesG G c).flatMap encU) :: H := h.b.uses_any hl x.gr x.A x.cap (MSub.trans x.subB hs) w0 c
theorem Gp.treeB (c : Rf) : FnIn Tryz.prog 30 [x.pb, keyF c] w0 H fun v H' => ∃ A cap, v = .tuple #[sl A (treeG G c).length cap, .bool (isG G c)] ∧ H' = .own A 136 11 (treeG G c).length cap ((treeG G c).flatMap encN) :: H := h.b.tree_any hl x.gr x.A x.cap (MSub.trans x.subB hs) w0 c
theorem Gp.formulasB : FnIn Tryz.prog 84 [x.pb] w0 H fun v H' => ∃ A cap, v = sl A (keysG G).length cap ∧ H' = .own A 38 2 (keysG G).length cap ((keysG G).flatMap encF) :: H := h.b.formulas_any hl x.gr x.A x.cap (MSub.trans x.subB hs) w0
theorem Gp.usersB (r : Rct) : FnIn Tryz.prog 35 [x.pb, .agg (encR r).toArray] w0 H fun v H' => ∃ A cap, v = sl A (usersG G r).length cap ∧ H' = .own A 38 2 (usersG G r).length cap ((usersG G r).flatMap encF) :: H := h.b.users_any hl x.gr x.A x.cap (MSub.trans x.subB hs) w0 r
theorem Gp.edgesB : FnIn Tryz.prog 85 [x.pb] w0 H fun v H' => ∃ A cap, v = sl A (edgesG G).length cap ∧ H' = .own A 70 4 (edgesG G).length cap ((edgesG G).flatMap encFF) :: H := h.b.edges_any hl x.gr x.A x.cap (MSub.trans x.subB hs) w0 h.g
end
end Go.SL
namespace Go.SL
open Go
def smallR (r : Rct) : Rct :=
 ⟨min (1 + modI r.c1 6) (1 + modI r.c2 6), min (1 + modI r.r1 8) (1 + modI r.r2 8), max (1 + modI r.c1 6) (1 + modI r.c2 6), max (1 + modI r.r1 8) (1 + modI r.r2 8)⟩
theorem smallR_range (r : Rct) : (1 ≤ (smallR r).c1 ∧ (smallR r).c1 ≤ (smallR r).c2 ∧ (smallR r).c2 ≤ 6) ∧ 1 ≤ (smallR r).r1 ∧ (smallR r).r1 ≤ (smallR r).r2 ∧ (smallR r).r2 ≤ 8 := by
 have h1 := modI_range r.c1 (n := 6) (by decide)
 have h2 := modI_range r.c2 (n := 6) (by decide)
 have h3 := modI_range r.r1 (n := 8) (by decide)
 have h4 := modI_range r.r2 (n := 8) (by decide)
 simp only [smallR]
 omega
theorem smallR_ok (r : Rct) : rectOk (smallR r) = true := by
 have := smallR_range r
 rw [rectOk_iff]
 omega
def seenTo (G : Gr) (r : Rct) (c : Rf) (row col : Int) : Prop :=
 ∃ y x, (r.r1 ≤ y ∧ y ≤ r.r2) ∧ (r.c1 ≤ x ∧ x ≤ r.c2) ∧ (y < row ∨ (y = row ∧ x < col)) ∧ c ∈ usersG G (oneA x y)
theorem seenTo_start (G : Gr) (r : Rct) (c : Rf) : ¬ seenTo G r c r.r1 r.c1 := by
 rintro ⟨y, x, h1, h2, h3, _⟩
 omega
theorem seenTo_row {G : Gr} {r : Rct} {c : Rf} {row : Int} : seenTo G r c row (r.c2 + 1) ↔ seenTo G r c (row + 1) r.c1 := by
 constructor
 ·
  rintro ⟨y, x, h1, h2, h3, h4⟩
  exact ⟨y, x, h1, h2, by omega, h4⟩
 ·
  rintro ⟨y, x, h1, h2, h3, h4⟩
  exact ⟨y, x, h1, h2, by omega, h4⟩
theorem seenTo_next {G : Gr} {r : Rct} {c : Rf} {row col : Int} (h1 : r.r1 ≤ row ∧ row ≤ r.r2) (h2 : r.c1 ≤ col ∧ col ≤ r.c2) : seenTo G r c row (col + 1) ↔ seenTo G r c row col ∨ c ∈ usersG G (oneA col row) := by
 constructor
 ·
  rintro ⟨y, x, k1, k2, k3, k4⟩
  by_cases e : y = row ∧ x = col
  ·
   obtain ⟨rfl, rfl⟩ := e
   exact .inr k4
  ·
   exact .inl ⟨y, x, k1, k2, by omega, k4⟩
 ·
  rintro (⟨y, x, k1, k2, k3, k4⟩ | h)
  ·
   exact ⟨y, x, k1, k2, by omega, k4⟩
  ·
   exact ⟨row, col, h1, h2, by omega, h⟩
theorem seenTo_end {G : Gr} (h : GrOk G) {r : Rct} (hr : rectOk r = true) {c : Rf} (hc : c ∈ keysG G) : seenTo G r c (r.r2 + 1) r.c1 ↔ c ∈ usersG G r := by
 rw [users_some h hr hc]
 constructor
 ·
  rintro ⟨y, x, h1, h2, _, h4⟩
  exact ⟨y, x, h1, h2, h4⟩
 ·
  rintro ⟨y, x, h1, h2, h4⟩
  exact ⟨y, x, h1, h2, by omega, h4⟩
theorem inside_users (G : Gr) (r : Rct) : ((usersG G r).all fun a => decide (a ∈ keysG G)) = true := by
 rw [List.all_eq_true]
 exact fun a ha => decide_eq_true (users_keys a ha)
def usedN (G : Gr) (i : Nat) : Nat := (((keysG G).take i).map fun c => (usersG G (oneA c.col c.row)).length).sum
theorem usedN_succ {G : Gr} {i : Nat} (h : i < (keysG G).length) : usedN G (i + 1) = usedN G i + (usersG G (oneA (keysG G)[i].col (keysG G)[i].row)).length := by
 unfold usedN
 rw [List.take_succ_eq_append_getElem h, List.map_append, List.sum_append]
 simp
theorem usedN_end {G : Gr} (h : GrOk G) : usedN G (keysG G).length = (edgesG G).length := by
 unfold usedN
 rw [List.take_length, edges_count h]
theorem usedN_le (G : Gr) (i : Nat) : usedN G i ≤ i * G.length := by
 unfold usedN
 have : ∀ L : List Rf, (L.map fun c => (usersG G (oneA c.col c.row)).length).sum ≤ L.length * G.length := by
  intro L
  induction L with
  | nil => simp
  | cons a r ih =>
   rw [List.map_cons, List.sum_cons, List.length_cons, Nat.add_mul, Nat.one_mul]
   have := users_len (G := G) (r := oneA a.col a.row)
   omega
 refine Nat.le_trans (this _) (Nat.mul_le_mul_right _ ?_)
 rw [List.length_take]
 omega
theorem edgesG_len (G : Gr) : (edgesG G).length ≤ G.length * G.length := by
 unfold edgesG
 have : ∀ L : Gr, (L.flatMap fun e => (G.filter fun f => hasU e.2.2 f.1).map fun f => (e.1, f.1)).length ≤ L.length * G.length := by
  intro L
  induction L with
  | nil => simp
  | cons a r ih =>
   rw [List.flatMap_cons, List.length_append, List.length_map, List.length_cons, Nat.add_mul, Nat.one_mul]
   have := List.length_filter_le (fun f : Rf × List Nd × List Us => hasU a.2.2 f.1) G
   omega
 exact this G
theorem usesG_len {G : Gr} (h : GrOk G) (c : Rf) : (usesG G c).length ≤ 256 := by
 unfold usesG
 cases hl : lookG G c with
 | none => simp
 | some x =>
  have h1 := h.ent _ ((lookG_some h.sort).1 hl)
  simp only [Option.map_some, Option.getD_some]
  rw [h1.uses]
  exact Nat.le_trans (usesFrom_len _ _) h1.len
theorem treeG_len {G : Gr} (h : GrOk G) (c : Rf) : (treeG G c).length ≤ 256 := by
 unfold treeG
 cases hl : lookG G c with
 | none => simp
 | some x =>
  have h1 := h.ent _ ((lookG_some h.sort).1 hl)
  simpa using h1.len
def meetsTo (us : List Us) (r : Rct) (k : Nat) : Bool := (us.take k).any (touch r)
theorem meetsTo_succ {us : List Us} {r : Rct} {k : Nat} (h : k < us.length) : meetsTo us r (k + 1) = (meetsTo us r k || touch r us[k]) := by
 unfold meetsTo
 rw [List.take_succ_eq_append_getElem h, List.any_append]
 simp
theorem meetsTo_end {us : List Us} {r : Rct} : meetsTo us r us.length = touchesU us r := by
 unfold meetsTo touchesU
 rw [List.take_length]
end Go.SL
namespace Go.SL
open Go Go.Proofs
attribute [local irreducible] W WL WQ WG WA WX WLI WR WT WC VOp RW thn blk cutP scp retP retPP endB FnAt FnIn FnP ceP
theorem EqualUses_to {L M : List Us} (h : L = M) {lv mv : Value} {w : World} (hl : Reads w lv L.length (L.flatMap encU)) (hm : Reads w mv M.length (M.flatMap encU)) : Pure Tryz.prog 32 [lv, mv] w (.bool true) := by
 have := EqualUses_at L M lv mv w hl hm
 rwa [decide_eq_true h] at this
theorem EqualRefs_to {L M : List Rf} (h : L = M) {lv mv : Value} {w : World} (hl : Reads w lv L.length (L.flatMap encF)) (hm : Reads w mv M.length (M.flatMap encF)) : Pure Tryz.prog 34 [lv, mv] w (.bool true) := by
 have := EqualRefs_at L M lv mv w hl hm
 rwa [decide_eq_true h] at this
theorem EqualPairs_to {L M : List (Rf × Rf)} (h : L = M) {lv mv : Value} {w : World} (hl : Reads w lv L.length (L.flatMap encFF)) (hm : Reads w mv M.length (M.flatMap encFF)) : Pure Tryz.prog 42 [lv, mv] w (.bool true) := by
 have := EqualPairs_at L M lv mv w hl hm
 rwa [decide_eq_true h] at this
theorem EqualTree_to {L M : List Nd} (h : L = M) {lv mv : Value} {w : World} (hl : Reads w lv L.length (L.flatMap encN)) (hm : Reads w mv M.length (M.flatMap encN)) : Pure Tryz.prog 31 [lv, mv] w (.bool true) := by
 have := EqualTree_at L M lv mv w hl hm
 rwa [decide_eq_true h] at this
theorem encEts_one (L : List Et) : ∀ u ∈ L.flatMap encEt, u.oneCell' = true := by
 intro u hu
 obtain ⟨x, _, hx⟩ := List.mem_flatMap.1 hu
 simp only [encEt, List.mem_cons, List.not_mem_nil, or_false] at hx
 rcases hx with rfl | rfl | rfl <;> rfl
theorem CopyEntries_at (L : List Et) (tv : Value) (w : World) (ht : Reads w tv L.length (L.flatMap encEt)) (hlen : L.length ≤ 1000000) :
  FnAt Tryz.prog 37 [tv] w fun v H => ∃ A cap, v = sl A L.length cap ∧ H = [.own A 142 3 L.length cap (L.flatMap encEt)] := by
 refine fn_at Tryz.func37 rfl Tryz.ntmps37 rfl ?_
 have hl : (L.flatMap encEt).length = L.length * 3 := flat_length' encEt_len L
 refine w_nilrow 142 3 ?_
 repeat' (first | ((with_reducible apply wl_appendR (n' := 0) (c := 0) (A := none) (m := L.length)); (iterate 3 exact rfl); exact pK; (intro w hm; exact ht.of_w0 hm); exact hl; exact encEts_one L; omega; (simp only [maxLen]; omega); intro A' cap' hA) | refine sT ?_ | refine sM fun _ => ?_ | (refine sC ?_ ?_ <;> intro hb <;> try omega) | fail)
 exact ret1 (.inl rfl) Tryz.results37 rfl (H' := [.own A' 142 3 (0 + L.length) cap' ([] ++ L.flatMap encEt)]) mS ⟨A', cap', by rw [Nat.zero_add], by rw [Nat.zero_add]; rfl⟩
theorem over_len {xs : List Value} {L : List Rf} {i : Nat} (h : i < L.length) (hx : xs.length = i * 2) :
  ∃ ys : List Value, ys.length = (i + 1) * 2 ∧ (xs ++ (L.drop i).flatMap encF).take (0 + i * 2) ++ encF ⟨0, 0⟩ ++ (xs ++ (L.drop i).flatMap encF).drop (0 + i * 2 + 2) = ys ++ (L.drop (i + 1)).flatMap encF := by
 refine ⟨xs ++ encF ⟨0, 0⟩, by simp [encF, hx]; omega, ?_⟩
 rw [List.drop_eq_getElem_cons h, List.flatMap_cons]
 have e1 : (xs ++ (encF L[i] ++ (L.drop (i + 1)).flatMap encF)).take (0 + i * 2) = xs := by
  rw [Nat.zero_add, ← hx, List.take_left']
  rfl
 have e2 : (xs ++ (encF L[i] ++ (L.drop (i + 1)).flatMap encF)).drop (0 + i * 2 + 2) = (L.drop (i + 1)).flatMap encF := by
  rw [← List.append_assoc, List.drop_left']
  simp [encF, hx]
 rw [e1, e2]
set_option maxHeartbeats 4000000 in
theorem Same_in (x : Gp) (G : Gr) (h : x.ok G) (hl : G.length ≤ 900) {H : List Blk} (hH : MSub x.H H) (w0 : World) :
  FnIn Tryz.prog 36 [.agg #[x.pa, x.pb]] w0 H fun v H' => v = .bool true ∧ H' = H := by
 refine fn_in Tryz.func36 rfl Tryz.ntmps36 rfl ?_
 have hF := fun (H : List Blk) (hs : MSub x.H H) => x.formulas G h hs w0 hl
 have hE := fun (H : List Blk) (hs : MSub x.H H) => x.edges G h hs w0 hl
 have hF2 := fun (H : List Blk) (hs : MSub x.H H) => x.formulasB G h hs w0 hl
 have hE2 := fun (H : List Blk) (hs : MSub x.H H) => x.edgesB G h hs w0 hl
 have hU := fun (c : Rf) (H : List Blk) (hs : MSub x.H H) => x.usesA G h hs w0 c
 have hU2 := fun (c : Rf) (H : List Blk) (hs : MSub x.H H) => x.usesB G h hs w0 hl c
 have hT := fun (c : Rf) (H : List Blk) (hs : MSub x.H H) => x.treeA G h hs w0 c
 have hT2 := fun (c : Rf) (H : List Blk) (hs : MSub x.H H) => x.treeB G h hs w0 hl c
 have hul := fun c => usesG_len h.g c
 have htl := fun c => treeG_len h.g c
 have hkl : (keysG G).length ≤ 900 := by rw [keysG, List.length_map]; exact hl
 have hel : (edgesG G).length ≤ 1000000 := by
  refine Nat.le_trans (edgesG_len G) ?_
  exact Nat.le_trans (Nat.mul_le_mul hl hl) (by decide)
 generalize keysG G = K at hF hF2 hkl
 generalize edgesG G = P at hE hE2 hel
 repeat' (first | refine sT ?_ | refine sS ?_ | refine sM fun _ => ?_ | (refine sC ?_ ?_ <;> intro hb <;> try omega) | fail)
 rename_i g1
 refine w_drawC (id := 1) [2, 5] [] [.box g1 28 [x.pa, x.pb]] (by kernel_rfl) (by kernel_rfl) (by kernel_rfl) (MSub.pick .hd (MSub.nil _)) ?_
 repeat' (first | ((with_reducible apply wl_callin (f := 17)); exact rfl; exact rfl; exact hF _ (MSub.trans hH mS); rintro _ _ ⟨A1, c1, rfl, rfl⟩) | ((with_reducible apply wl_callin (f := 23)); exact rfl; exact rfl; exact hE _ (MSub.trans hH mS); rintro _ _ ⟨A2, c2, rfl, rfl⟩) | refine sT ?_ | refine sS ?_ | refine sW ?_ | refine sM fun _ => ?_ | (refine sC ?_ ?_ <;> intro hb <;> try omega) | (refine sCW ?_ ?_ <;> intro hb <;> try omega) | fail)
 all_goals first | (exfalso; omega) | skip
 repeat' (first | ((with_reducible apply wl_callin (f := 84)); exact rfl; exact rfl; exact hF2 _ (MSub.trans hH mS); rintro _ _ ⟨A3, c3, rfl, rfl⟩) | ((with_reducible apply wl_callin (f := 85)); exact rfl; exact rfl; exact hE2 _ (MSub.trans hH mS); rintro _ _ ⟨A4, c4, rfl, rfl⟩) | ((with_reducible apply wl_callp (f := 34)); exact rfl; exact rfl; (intro w' hm; exact EqualRefs_to rfl (Reads.of_own hm pK) (Reads.of_own hm pK))) | ((with_reducible apply wl_callp (f := 42)); exact rfl; exact rfl; (intro w' hm; exact EqualPairs_to rfl (Reads.of_own hm pK) (Reads.of_own hm pK))) | refine sT ?_ | refine sS ?_ | refine sM fun _ => ?_ | (refine sC ?_ ?_ <;> intro hb <;> try omega) | fail)
 all_goals first | (exfalso; omega) | skip
 refine w_loopK [1, 3, 4] rfl (fun y : Nat × List Value => [(5, .int .i64 (y.1 : Int))]) (fun y => .own A2 70 4 P.length c2 y.2 :: .own A1 38 2 K.length c1 (K.flatMap encF) :: .box g1 28 [x.pa, x.pb] :: H) (fun y => y.1 ≤ P.length ∧ y.2.length = P.length * 4) (fun y => P.length - y.1) (0, P.flatMap encFF) ⟨Nat.zero_le _, flat_length' encFF_len _⟩ sB mS ?_
 rintro ⟨i, xs⟩ ⟨hi, hxs⟩
 dsimp only at hi hxs ⊢
 refine w_row (A := A2) .hd fun q1 q2 q3 => ?_
 by_cases hlt : i < P.length
 ·
  refine w_some (A := A2) .hd (by omega) fun gp hA => ?_
  subst hA
  repeat' (first | ((with_reducible apply wl_v); exact rfl; (with_reducible apply v_indexAddr); exact rfl; exact rfl; exact hlt) | ((with_reducible apply wl_v); exact rfl; (with_reducible apply v_ia_arr0); (iterate 3 exact rfl)) | ((with_reducible apply wl_put_own (vs := encF ⟨0, 0⟩)); exact rfl; exact rfl; exact pK; exact rfl; exact rfl; decide; omega) | refine sT ?_ | refine sS ?_ | refine sN ?_ | refine sM fun _ => ?_ | (refine sC ?_ ?_ <;> intro hb <;> try omega) | fail)
  refine ⟨(i + 1, xs.take (0 + i * 4) ++ encF ⟨0, 0⟩ ++ xs.drop (0 + i * 4 + 2)), ?_, (by first | omega | (dsimp only; omega)), sB, sB, mS⟩
  refine ⟨hlt, ?_⟩
  simp only [List.length_append, List.length_take, List.length_drop, show (encF ⟨0, 0⟩).length = 2 from rfl]
  omega
 ·
  repeat' (first | refine sT ?_ | refine sS ?_ | refine sN ?_ | refine sM fun _ => ?_ | (refine sC ?_ ?_ <;> intro hb <;> try omega) | fail)
  refine w_loopK [1, 3] rfl (fun y : Nat × List Value => [(6, .int .i64 (y.1 : Int))]) (fun y => .own A1 38 2 K.length c1 (y.2 ++ (K.drop y.1).flatMap encF) :: .box g1 28 [x.pa, x.pb] :: H) (fun y => y.1 ≤ K.length ∧ y.2.length = y.1 * 2) (fun y => K.length - y.1) (0, []) ⟨Nat.zero_le _, rfl⟩ sB mS ?_
  rintro ⟨i, xs⟩ ⟨hi, hxs⟩
  dsimp only at hi hxs ⊢
  by_cases hlt : i < K.length
  ·
   refine w_row (A := A1) .hd fun q1 q2 q3 => ?_
   refine w_some (A := A1) .hd (by omega) fun gk hA => ?_
   subst hA
   obtain ⟨ys, hys, hover⟩ := over_len hlt hxs
   have hread : ((xs ++ (K.drop i).flatMap encF).drop (0 + i * 2)).take 2 = encF K[i] := by
    rw [Nat.zero_add, ← hxs, List.drop_left', List.drop_eq_getElem_cons hlt, List.flatMap_cons, List.take_left']
    ·
     rfl
    ·
     rfl
   generalize K[i] = c at hread
   have hsz : (xs ++ (K.drop i).flatMap encF).length = K.length * 2 := q1
   repeat' (first | ((with_reducible apply wl_v); exact rfl; (with_reducible apply v_indexAddr); exact rfl; exact rfl; exact hlt) | ((with_reducible apply wl_v); exact rfl; (with_reducible apply v_loads_own); exact rfl; exact pK; exact hread; exact rfl) | ((with_reducible apply wl_put_own (vs := encF ⟨0, 0⟩)); exact rfl; exact rfl; exact pK; exact rfl; exact rfl; decide; (rw [hsz]; omega)) | refine sT ?_ | refine sS ?_ | refine sN ?_ | refine sM fun _ => ?_ | (refine sC ?_ ?_ <;> intro hb <;> try omega) | fail)
   rename_i g7
   rw [hover]
   have u1 := hU c
   have u2 := hU2 c
   have u3 := hul c
   have t1 := hT c
   have t2 := hT2 c
   have t3 := htl c
   generalize usesG G c = U at u1 u2 u3
   generalize treeG G c = T at t1 t2 t3
   generalize isG G c = b at t1 t2
   refine w_drawC (id := 13) [3, 7] [] [.box g7 38 (encF c), .box g1 28 [x.pa, x.pb]] (by kernel_rfl) (by kernel_rfl) (by kernel_rfl) mS ?_
   repeat' (first | ((with_reducible apply wl_callin (f := 21)); exact rfl; exact rfl; exact u1 _ (MSub.trans hH mS); rintro _ _ ⟨A5, c5, rfl, rfl⟩) | ((with_reducible apply wl_callin (f := 33)); exact rfl; exact rfl; exact u2 _ (MSub.trans hH mS); rintro _ _ ⟨A6, c6, rfl, rfl⟩) | ((with_reducible apply wl_callin (f := 29)); exact rfl; exact rfl; exact t1 _ (MSub.trans hH mS); rintro _ _ ⟨A7, c7, rfl, rfl⟩) | ((with_reducible apply wl_callin (f := 30)); exact rfl; exact rfl; exact t2 _ (MSub.trans hH mS); rintro _ _ ⟨A8, c8, rfl, rfl⟩) | ((with_reducible apply wl_callp (f := 32)); exact rfl; exact rfl; (intro w' hm; exact EqualUses_to rfl (Reads.of_own hm pK) (Reads.of_own hm pK))) | ((with_reducible apply wl_callp (f := 31)); exact rfl; exact rfl; (intro w' hm; exact EqualTree_to rfl (Reads.of_own hm pK) (Reads.of_own hm pK))) | ((with_reducible apply wl_v); exact rfl; (with_reducible apply v_neq_same); exact rfl; exact rfl) | refine sT ?_ | refine sS ?_ | refine sW ?_ | refine sM fun _ => ?_ | (refine sC ?_ ?_ <;> intro hb <;> try omega) | (refine sCW ?_ ?_ <;> intro hb <;> try omega) | fail)
   all_goals first | (exfalso; omega) | (exfalso; simp at hb; done) | skip
   refine w_loopK [1, 3, 6, 8, 10] rfl (fun y : Nat × List Value => [(14, .int .i64 (y.1 : Int))]) (fun y => .own A5 45 6 U.length c5 y.2 :: .own A7 136 11 T.length c7 (T.flatMap encN) :: .own (some gk) 38 2 K.length c1 (ys ++ (K.drop (i + 1)).flatMap encF) :: .box g1 28 [x.pa, x.pb] :: H) (fun y => y.1 ≤ U.length ∧ y.2.length = U.length * 6) (fun y => U.length - y.1) (0, U.flatMap encU) ⟨Nat.zero_le _, flat_length' encU_len _⟩ sB mS ?_
   rintro ⟨k, us⟩ ⟨hk, hus⟩
   dsimp only at hk hus ⊢
   by_cases hku : k < U.length
   ·
    refine w_some (A := A5) .hd (by omega) fun gu hA => ?_
    subst hA
    repeat' (first | ((with_reducible apply wl_v); exact rfl; (with_reducible apply v_indexAddr); exact rfl; exact rfl; exact hku) | ((with_reducible apply wl_store_own); exact rfl; exact rfl; exact pK; exact rfl; omega) | refine sT ?_ | refine sS ?_ | refine sN ?_ | refine sM fun _ => ?_ | (refine sC ?_ ?_ <;> intro hb <;> try omega) | fail)
    refine ⟨(k + 1, us.set (0 + k * 6) (.int .i64 0)), ?_, (by first | omega | (dsimp only; omega)), sB, sB, mS⟩
    exact ⟨hku, by simpa using hus⟩
   ·
    repeat' (first | refine sT ?_ | refine sS ?_ | refine sN ?_ | refine sM fun _ => ?_ | (refine sC ?_ ?_ <;> intro hb <;> try omega) | fail)
    refine w_loopK [1, 3, 6, 10] rfl (fun y : Nat × List Value => [(15, .int .i64 (y.1 : Int))]) (fun y => .own A7 136 11 T.length c7 y.2 :: .own (some gk) 38 2 K.length c1 (ys ++ (K.drop (i + 1)).flatMap encF) :: .box g1 28 [x.pa, x.pb] :: H) (fun y => y.1 ≤ T.length ∧ y.2.length = T.length * 11) (fun y => T.length - y.1) (0, T.flatMap encN) ⟨Nat.zero_le _, flat_length' encN_len _⟩ sB mS ?_
    rintro ⟨k, us⟩ ⟨hk, hus⟩
    dsimp only at hk hus ⊢
    by_cases hku : k < T.length
    ·
     refine w_some (A := A7) .hd (by omega) fun gu hA => ?_
     subst hA
     repeat' (first | ((with_reducible apply wl_v); exact rfl; (with_reducible apply v_indexAddr); exact rfl; exact rfl; exact hku) | ((with_reducible apply wl_store_own); exact rfl; exact rfl; exact pK; exact rfl; omega) | refine sT ?_ | refine sS ?_ | refine sN ?_ | refine sM fun _ => ?_ | (refine sC ?_ ?_ <;> intro hb <;> try omega) | fail)
     refine ⟨(k + 1, us.set (0 + k * 11) (.int .u8 0)), ?_, (by first | omega | (dsimp only; omega)), sB, sB, mS⟩
     exact ⟨hku, by simpa using hus⟩
    ·
     repeat' (first | refine sT ?_ | refine sS ?_ | refine sN ?_ | refine sM fun _ => ?_ | (refine sC ?_ ?_ <;> intro hb <;> try omega) | fail)
     refine ⟨(i + 1, ys), ?_, (by first | omega | (dsimp only; omega)), sB, sB, mS⟩
     exact ⟨hlt, hys⟩
  ·
   repeat' (first | refine sT ?_ | refine sS ?_ | refine sN ?_ | refine sM fun _ => ?_ | (refine sC ?_ ?_ <;> intro hb <;> try omega) | fail)
   all_goals exact ret1 eIO rfl rfl (H' := H) mS ⟨rfl, rfl⟩
theorem GOk.set_to {R : List Blk} {E : List En} {clock : Nat} {G : Gr} (h : GOk R E clock G) (gg gm : Nat) (F : List Blk) {H : List Blk} (hs : MSub (F ++ (gB gg gm (E.map En.m) clock ++ R)) H) {w0 : World} (hW : Words w0) {c : Rf} {i : ByteArray} {G' : Gr} {e : Int} (he : setG G c i = (G', e)) :
  FnIn Tryz.prog 27 [.pointer (some ⟨gg, 0, none⟩), keyF c, .string i] w0 H fun v H' => v = .int .i64 e ∧ ∃ E' clock' R', H' = F ++ (gB gg gm (E'.map En.m) clock' ++ R') ∧ GOk R' E' clock' G' := by
 have h1 := Set_inF gg gm clock E G c i R F w0 h hW
 rw [he] at h1
 have hp : ∀ (A B : List Blk), (A ++ (B ++ F)).Perm (F ++ (A ++ B)) := fun A B => by
  rw [← List.append_assoc]
  exact List.perm_append_comm
 refine (h1.msub (MSub.trans (MSub.of_perm (hp _ _).symm) hs)).re ?_
 rintro v H' ⟨hv, E', clock', R', rfl, _, hG⟩
 exact ⟨_, MSub.of_perm (hp _ _), hv, E', clock', R', rfl, hG⟩
theorem Example_at (w : World) : FnAt Tryz.prog 51 [] w fun v H => ∃ g, v = .slice (some ⟨g, 0, none⟩) 4 4 ∧ H = [.own (some g) 142 3 4 4 (exL.flatMap encEt)] := by
 refine fn_at Tryz.func51 rfl Tryz.ntmps51 rfl ?_
 repeat' (first | refine sT ?_ | refine sS ?_ | refine sM fun _ => ?_ | (refine sC ?_ ?_ <;> intro hb <;> try omega) | fail)
 all_goals exact ret1 eIO rfl rfl (MSub.refl _) ⟨_, rfl, rfl⟩
def exG1 : Gr := [
 (⟨1, 3⟩, [⟨3, zeroV, ⟨2, 1, 2, 3⟩, 0, 0, 0⟩, ⟨7, zeroV, zeroR, 0, 46, 1⟩], [⟨⟨2, 1, 2, 3⟩, 1, 46⟩]),
 (⟨1, 4⟩, [refN 1 3, ⟨1, ⟨1, 0, emptyB⟩, zeroR, 0, 0, 0⟩, ⟨7, zeroV, zeroR, 0, 25, 2⟩, ⟨1, ⟨1, 10000, emptyB⟩, zeroR, 0, 0, 0⟩, nodeOp 6 1], [⟨oneA 1 3, -1, 0⟩])]
theorem ex_u2 : usesG exG ⟨1, 2⟩ = [⟨oneA 1 1, -1, 0⟩, ⟨oneA 2 1, -1, 0⟩] := by decide +kernel
theorem ex_u3 : usesG exG ⟨1, 3⟩ = [⟨⟨2, 1, 2, 3⟩, 1, 46⟩] := by decide +kernel
theorem ex_u1 : usesG exG ⟨1, 1⟩ = [] := by decide +kernel
theorem ex_s1 : usersG exG ⟨2, 1, 2, 2⟩ = [⟨1, 2⟩, ⟨1, 3⟩] := by decide +kernel
theorem ex_s2 : usersG exG (oneA 1 3) = [⟨1, 4⟩] := by decide +kernel
theorem ex_s3 : usersG exG (oneA 3 1) = [] := by decide +kernel
theorem ex_k : keysG exG = [⟨1, 2⟩, ⟨1, 3⟩, ⟨1, 4⟩] := by decide +kernel
theorem ex_e : edgesG exG = [(⟨1, 4⟩, ⟨1, 3⟩)] := by decide +kernel
theorem ex_d1 : setG exG ⟨1, 2⟩ emptyB = (exG1, 0) := by decide +kernel
theorem ex_d2 : setG exG1 ⟨1, 0⟩ ⟨#[49]⟩ = (exG1, 3) := by decide +kernel
theorem ex_d3 : setG exG1 ⟨1, 2⟩ ⟨#[61]⟩ = (exG1, 4) := by decide +kernel
theorem ex_k1 : keysG exG1 = [⟨1, 3⟩, ⟨1, 4⟩] := by decide +kernel
set_option maxHeartbeats 4000000 in
theorem awake22_at (w : World) (hW : Words w) : Pure Tryz.prog 26 [] w (.bool true) := by
 have hN : ∀ (w' : World) (H : List Blk) (tv : Value), Mem w w' H → Reads w' tv exL.length (exL.flatMap encEt) → FnAt Tryz.prog 38 [tv] w' fun v H => ∃ gg gm E clock R, v = .tuple #[.pointer (some ⟨gg, 0, none⟩), .int .i64 0] ∧ H = gB gg gm (E.map En.m) clock ++ R ∧ GOk R E clock exG := by
  intro w' H tv hm ht
  have h1 := New_at exL tv w' ht (by decide) (hW.next hm)
  rw [ex_new] at h1
  exact h1
 refine fn_at Tryz.func26 rfl Tryz.ntmps26 rfl ?_
 repeat' (first | ((with_reducible apply wl_call (f := 51)); exact rfl; exact rfl; (intro w' hm; exact Example_at w'); rintro _ _ ⟨ge, rfl, rfl⟩) | ((with_reducible apply wl_call (f := 38)); exact rfl; exact rfl; (intro w' hm; exact hN w' _ _ hm (Reads.of_own (A := some _) hm pK)); rintro _ _ ⟨gg, gm, E, clock, R, rfl, rfl, hG⟩; refine wl_subH (gB gg gm (E.map En.m) clock ++ R) (MSub.appL _ _) ?_) | ((with_reducible apply wl_callp); exact rfl; exact rfl; (intro w hm; exact refL_at _ _ w)) | ((with_reducible apply wl_v); exact rfl; (with_reducible apply v_buildAr); (iterate 5 exact rfl)) | ((with_reducible apply wl_callp); exact rfl; exact rfl; (intro w hm; exact One_at _ w)) | ((with_reducible apply wl_callin (f := 17)); exact rfl; exact rfl; exact hG3.formulas_any gg gm mS w (by decide); rintro _ _ ⟨A9, c9, rfl, rfl⟩) | ((with_reducible apply wl_callin (f := 27)); exact rfl; exact rfl; exact hG2.set_to gg gm [] mS hW ex_d3; rintro _ _ ⟨rfl, E3, k3, R3, rfl, hG3⟩; rw [List.nil_append]) | ((with_reducible apply wl_callin (f := 27)); exact rfl; exact rfl; exact hG1.set_to gg gm [] mS hW ex_d2; rintro _ _ ⟨rfl, E2, k2, R2, rfl, hG2⟩; rw [List.nil_append]) | ((with_reducible apply wl_callin (f := 21)); exact rfl; exact rfl; exact hG.uses_any gg gm mS w ⟨1, 2⟩; rintro _ _ ⟨A1, c1, rfl, rfl⟩) | ((with_reducible apply wl_callin (f := 21)); exact rfl; exact rfl; exact hG.uses_any gg gm mS w ⟨1, 3⟩; rintro _ _ ⟨A2, c2, rfl, rfl⟩) | ((with_reducible apply wl_callin (f := 21)); exact rfl; exact rfl; exact hG.uses_any gg gm mS w ⟨1, 1⟩; rw [ex_u1]; rintro _ _ ⟨A3, c3, rfl, rfl⟩) | ((with_reducible apply wl_callin (f := 16)); exact rfl; exact rfl; exact hG.users_any gg gm mS w (by decide) exG_ok ⟨2, 1, 2, 2⟩; rintro _ _ ⟨A4, c4, rfl, rfl⟩) | ((with_reducible apply wl_callin (f := 16)); exact rfl; exact rfl; exact hG.users_any gg gm mS w (by decide) exG_ok (oneA 1 3); rintro _ _ ⟨A5, c5, rfl, rfl⟩) | ((with_reducible apply wl_callin (f := 16)); exact rfl; exact rfl; exact hG.users_any gg gm mS w (by decide) exG_ok (oneA 3 1); rw [ex_s3]; rintro _ _ ⟨A6, c6, rfl, rfl⟩) | ((with_reducible apply wl_callin (f := 17)); exact rfl; exact rfl; exact hG.formulas_any gg gm mS w (by decide); rintro _ _ ⟨A7, c7, rfl, rfl⟩) | ((with_reducible apply wl_callin (f := 23)); exact rfl; exact rfl; exact hG.edges_any gg gm mS w (by decide); rintro _ _ ⟨A8, c8, rfl, rfl⟩) | ((with_reducible apply wl_callp (f := 32)); exact rfl; exact rfl; (intro w' hm; exact EqualUses_to ex_u2 (Reads.of_own hm pK) (Reads.of_own (A := some _) hm pK))) | ((with_reducible apply wl_callp (f := 32)); exact rfl; exact rfl; (intro w' hm; exact EqualUses_to ex_u3 (Reads.of_own hm pK) (Reads.of_own (A := some _) hm pK))) | ((with_reducible apply wl_callp (f := 34)); exact rfl; exact rfl; (intro w' hm; exact EqualRefs_to ex_s1 (Reads.of_own hm pK) (Reads.of_own (A := some _) hm pK))) | ((with_reducible apply wl_callp (f := 34)); exact rfl; exact rfl; (intro w' hm; exact EqualRefs_to ex_s2 (Reads.of_own hm pK) (Reads.of_own (A := some _) hm pK))) | ((with_reducible apply wl_callp (f := 34)); exact rfl; exact rfl; (intro w' hm; exact EqualRefs_to ex_k (Reads.of_own hm pK) (Reads.of_own (A := some _) hm pK))) | ((with_reducible apply wl_callp (f := 42)); exact rfl; exact rfl; (intro w' hm; exact EqualPairs_to ex_e (Reads.of_own hm pK) (Reads.of_own (A := some _) hm pK))) | ((with_reducible apply wl_callin (f := 27)); exact rfl; exact rfl; exact hG.set_to gg gm [] mS hW ex_d1; rintro _ _ ⟨rfl, E1, k1, R1, rfl, hG1⟩; rw [List.nil_append]) | ((with_reducible apply wl_callp (f := 34)); exact rfl; exact rfl; (intro w' hm; exact EqualRefs_to ex_k1 (Reads.of_own hm pK) (Reads.of_own (A := some _) hm pK))) | refine sT ?_ | refine sS ?_ | refine sM fun _ => ?_ | (refine sC ?_ ?_ <;> intro hb <;> try omega) | fail)
 all_goals first
  | (exfalso; omega)
  | ((refine rT1 ?_); rfl)
  | trace_state
theorem StartP_at (L : List Pu) (tv : Value) (w : World) (ht : Reads w tv L.length (L.flatMap encPu)) (hW : Words w) :
  FnAt Tryz.prog 14 [tv] w fun v H => ∃ x : Gp, v = .tuple #[.agg #[x.pa, x.pb], .bool true] ∧ H = x.H ∧ x.ok (startG L) :=
 (Start_at L tv w ht hW).mono fun v H ⟨x, h1, h2, h3⟩ => ⟨x.p, h1, h2, Gs.p_ok h3⟩
theorem pair_to {L : List (Rf × Rf)} {a b : Rf} (h : (a, b) ∈ L) {lv : Value} {w : World} (hl : Reads w lv L.length (L.flatMap encFF)) : Pure Tryz.prog 24 [lv, .agg (encF a).toArray, .agg (encF b).toArray] w (.bool true) := by
 have := pair_at L a b lv w hl
 rwa [decide_eq_true h] at this
theorem inside_to {L M : List Rf} (h : (L.all fun a => decide (a ∈ M)) = true) {lv mv : Value} {w : World} (hl : Reads w lv L.length (L.flatMap encF)) (hm : Reads w mv M.length (M.flatMap encF)) : Pure Tryz.prog 25 [lv, mv] w (.bool true) := by
 have := inside_at L M lv mv w hl hm
 rwa [h] at this
theorem rectU {us : List Us} {k : Nat} (h : k < us.length) : ((us.flatMap encU).drop (0 + k * 6 + 0)).take 4 = encR us[k].rect := by
 have h1 := flat_elem encU_len us k h
 rw [Nat.zero_add, Nat.add_zero]
 have h2 : (((us.flatMap encU).drop (k * 6)).take 6).take 4 = ((us.flatMap encU).drop (k * 6)).take 4 := by rw [List.take_take]; rfl
 rw [← h2, h1]
 rfl
theorem refF {L : List Rf} {k : Nat} (h : k < L.length) : ((L.flatMap encF).drop (0 + k * 2)).take 2 = encF L[k] := by
 rw [Nat.zero_add]
 exact flat_elem encF_len L k h
theorem v_neqb_alike {P : Program} {w0 : World} {s : Slots} {H : List Blk} {ty t t' : TypeId} [Und P t .bool] {x y : Operand} {b : Bool} (hx : ev s x = some (.bool b)) (hy : ev s y = some (.bool b)) : VOp P w0 s H (.binOp .neq t x y t') ty (.bool false) := by
 have h := v_neqb (P := P) (w0 := w0) (s := s) (H := H) (ty := ty) (t := t) (t' := t') hx hy
 simpa using h
end Go.SL
