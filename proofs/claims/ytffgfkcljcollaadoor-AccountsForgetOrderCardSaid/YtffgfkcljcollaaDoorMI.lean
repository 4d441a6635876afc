/-
  Several ways through a region that meet again behind it: what differs is forgotten. Drawn regions with a ghost beside the world: several variables of the region's own that are made and laid in it, each once. Drawn regions that make and lay several variables of their own: the steps.
-/
import Derived.Test.YtffgfkcljcollaaDoorMB
set_option linter.unusedSimpArgs false
set_option linter.unusedVariables false
set_option maxRecDepth 100000
set_option maxHeartbeats 1600000
namespace Go.Proofs.YtffgfkcljcollaaDoor
open Go.RowKit
section
variable {P : Program} {c : Code} {Q : Exit → Act → World → Prop} {t : List Value} {ds : List Deferred} {w : World}
end
end Go.Proofs.YtffgfkcljcollaaDoor
namespace Go.Proofs.YtffgfkcljcollaaDoor
open Go
abbrev SpecG (G : Type) := Option (Value → World × G → Prop)
/-- The walk in the order of the text. 'pre k p': operation k comes behind operation p in every order. -/
def CertG {G : Type} (P : Program) (ops : Array Oper) (R : World × G → World × G → Prop) (w0 : World × G) (Q : Act → World × G → Prop) (pre : Nat → Nat → Bool) (N : Nat → G → Prop) :
  List (Nat × Oper × SpecG G) → List (Nat × (World × G → Prop)) → Act → Prop
 | [], Fs, a => ∀ X, R w0 X → (∀ p F, (p, F) ∈ Fs → F X) → Q a X
 | (k, o, s) :: l, Fs, a =>
  if Region.wanted o (yielded ops a.tmps) = true then
   match s with
   | none => ∃ v, (∀ X, R w0 X → (∀ p F, (p, F) ∈ Fs → pre k p = true → F X) → quietR P o a (fun _ Z => R X (Z, X.2)) X.1 v) ∧ CertG P ops R w0 Q pre N l Fs (a.put o.dst v)
   | some S => (∀ X, R w0 X → N k X.2 → (∀ p F, (p, F) ∈ Fs → pre k p = true → F X) → runsR P o a X.1 (fun u Z => ∃ g, S u (Z, g) ∧ R X (Z, g) ∧ ∀ m, m ≠ k → N m X.2 → N m g)) ∧
     ∀ v, CertG P ops R w0 Q pre N l ((k, S v) :: Fs) (a.put o.dst v)
  else CertG P ops R w0 Q pre N l Fs (a.put o.dst undef)
section
variable {G : Type} {P : Program} {ops : Array Oper} {R : World × G → World × G → Prop} {w0 : World × G} {Q : Act → World × G → Prop} {pre : Nat → Nat → Bool} {N : Nat → G → Prop}
theorem CertG.more : ∀ (l : List (Nat × Oper × SpecG G)) (Fs Gs : List (Nat × (World × G → Prop))) (a : Act), (∀ x, x ∈ Fs → x ∈ Gs) → CertG P ops R w0 Q pre N l Fs a → CertG P ops R w0 Q pre N l Gs a
 | [], Fs, Gs, a, hs, h => fun X hX hG => h X hX fun p F hp => hG p F (hs _ hp)
 | (k, o, s) :: l, Fs, Gs, a, hs, h => by
  unfold CertG at h ⊢
  split
  ·rename_i hw
   rw [if_pos hw] at h
   cases s with
   | none =>
    obtain ⟨v, h1, h2⟩ := h;exact ⟨v, fun X hX hG => h1 X hX fun p F hp => hG p F (hs _ hp), CertG.more l _ _ _ hs h2⟩
   | some S =>
    obtain ⟨h1, h2⟩ := h;refine ⟨fun X hX hN hG => h1 X hX hN fun p F hp => hG p F (hs _ hp), fun v => CertG.more l _ _ _ ?_ (h2 v)⟩;intro x hx
    rcases List.mem_cons.1 hx with rfl | hx
    ·exact List.mem_cons_self
    ·exact List.mem_cons_of_mem _ (hs _ hx)
  ·rename_i hw
   rw [if_neg hw] at h;exact CertG.more l _ _ _ hs h
/-- What pulling an operation to the front leaves. -/
def PulledG {G : Type} (P : Program) (ops : Array Oper) (R : World × G → World × G → Prop) (w0 : World × G) (Q : Act → World × G → Prop) (pre : Nat → Nat → Bool) (N : Nat → G → Prop) (X : World × G) (j : Nat) (oj : Oper) (sj : SpecG G)
  (l : List (Nat × Oper × SpecG G)) (Fs : List (Nat × (World × G → Prop))) (a : Act) : Prop :=
 if Region.wanted oj (yielded ops a.tmps) = true then
  match sj with
  | none => ∃ v, quietR P oj a (fun _ Z => R X (Z, X.2)) X.1 v ∧ CertG P ops R w0 Q pre N l Fs (a.put oj.dst v)
  | some S => runsR P oj a X.1 (fun u Z => ∃ g, S u (Z, g) ∧ R X (Z, g) ∧ ∀ m, m ≠ j → N m X.2 → N m g) ∧ ∀ v, CertG P ops R w0 Q pre N l ((j, S v) :: Fs) (a.put oj.dst v)
 else CertG P ops R w0 Q pre N l Fs (a.put oj.dst undef)
theorem CertG.pull {X : World × G} {j : Nat} {oj : Oper} {sj : SpecG G} (hsj : ∀ cs b, oj.op ≠ .select cs b) (hX : R w0 X) (hN : N j X.2) (l2 : List (Nat × Oper × SpecG G)) :
  ∀ (l1 : List (Nat × Oper × SpecG G)) (Fs : List (Nat × (World × G → Prop))) (a : Act),
   (∀ it ∈ l1, it.2.1.apart ops oj = true ∧ pre j it.1 = false ∧ ∀ cs b, it.2.1.op ≠ .select cs b) →
   (∀ p F, (p, F) ∈ Fs → pre j p = true → F X) →
   CertG P ops R w0 Q pre N (l1 ++ (j, oj, sj) :: l2) Fs a → PulledG P ops R w0 Q pre N X j oj sj (l1 ++ l2) Fs a
 | [], Fs, a, _, hF, h => by
  unfold PulledG
  simp only [List.nil_append] at h ⊢
  unfold CertG at h
  split
  ·rename_i hw
   rw [if_pos hw] at h
   cases sj with
   | none => obtain ⟨v, h1, h2⟩ := h; exact ⟨v, h1 X hX hF, h2⟩
   | some S => obtain ⟨h1, h2⟩ := h; exact ⟨h1 X hX hN hF, h2⟩
  ·rename_i hw
   rw [if_neg hw] at h;exact h
 | (i, oi, si) :: l1, Fs, a, hl, hF, h => by
  obtain ⟨hap, hpre, hsi⟩ := hl _ List.mem_cons_self;obtain ⟨h1, h2, h3⟩ := Oper.apart_spec hap;simp only at h1 h2 h3 hpre hsi
  have hl' := fun it hit => hl it (List.mem_cons_of_mem _ hit)
  have comm : ∀ u v, (a.put oi.dst u).put oj.dst v = (a.put oj.dst v).put oi.dst u := fun u v => Act.put_comm a u v h2
  have wj : ∀ u, Region.wanted oj (yielded ops (a.put oi.dst u).tmps) = Region.wanted oj (yielded ops a.tmps) := fun u => wanted_put oj a oi.dst u h1
  have wi : ∀ v, Region.wanted oi (yielded ops (a.put oj.dst v).tmps) = Region.wanted oi (yielded ops a.tmps) := fun v => wanted_put oi a oj.dst v h3
  rw [List.cons_append] at h
  unfold CertG at h
  by_cases hwi : Region.wanted oi (yielded ops a.tmps) = true
  ·rw [if_pos hwi] at h
   cases si with
   | none =>
    obtain ⟨vi, ho, hc⟩ := h;have hp := CertG.pull hsj hX hN l2 l1 Fs _ hl' hF hc
    unfold PulledG at hp ⊢
    rw [wj] at hp
    split
    ·rename_i hwj
     rw [if_pos hwj] at hp
     cases sj with
     | none =>
      obtain ⟨v, hq, hk⟩ := hp;refine ⟨v, by rwa [quietR_put hsj h1] at hq, ?_⟩;rw [comm] at hk;rw [List.cons_append]
      unfold CertG
      rw [wi, if_pos hwi];exact ⟨vi, fun Y hY hG => by rw [quietR_put hsi h3]; exact ho Y hY hG, hk⟩
     | some S =>
      obtain ⟨hq, hk⟩ := hp;refine ⟨by rwa [runsR_put hsj h1] at hq, fun v => ?_⟩;have hk := hk v;rw [comm] at hk;rw [List.cons_append]
      unfold CertG
      rw [wi, if_pos hwi];exact ⟨vi, fun Y hY hG => by rw [quietR_put hsi h3]; exact ho Y hY fun p F hp => hG p F (List.mem_cons_of_mem _ hp), hk⟩
    ·rename_i hwj
     rw [if_neg hwj, comm] at hp;rw [List.cons_append]
     unfold CertG
     rw [wi, if_pos hwi];exact ⟨vi, fun Y hY hG => by rw [quietR_put hsi h3]; exact ho Y hY hG, hp⟩
   | some Si =>
    obtain ⟨ho, hc⟩ := h
    have hp : ∀ vi, PulledG P ops R w0 Q pre N X j oj sj (l1 ++ l2) ((i, Si vi) :: Fs) (a.put oi.dst vi) := fun vi => CertG.pull hsj hX hN l2 l1 _ _ hl' (by
     intro p F hm hpj
     rcases List.mem_cons.1 hm with heq | hm
     ·injection heq with e1 _
      rw [e1, hpre] at hpj
      cases hpj
     ·exact hF p F hm hpj) (hc vi)
    unfold PulledG at hp ⊢
    simp only [wj] at hp
    split
    ·rename_i hwj
     simp only [if_pos hwj] at hp
     cases sj with
     | none =>
      simp only [quietR_put hsj h1] at hp;obtain ⟨v, hq, _⟩ := hp undef;refine ⟨v, hq, ?_⟩;rw [List.cons_append]
      unfold CertG
      rw [wi, if_pos hwi];refine ⟨fun Y hY hNY hG => by rw [runsR_put hsi h3]; exact ho Y hY hNY hG, fun vi => ?_⟩;obtain ⟨v', hq', hk⟩ := hp vi;obtain rfl := quietR_det hq hq';rw [comm] at hk;exact hk
     | some S =>
      simp only [runsR_put hsj h1] at hp;refine ⟨(hp undef).1, fun v => ?_⟩;rw [List.cons_append]
      unfold CertG
      rw [wi, if_pos hwi];refine ⟨fun Y hY hNY hG => by rw [runsR_put hsi h3]; exact ho Y hY hNY fun p F hp => hG p F (List.mem_cons_of_mem _ hp), fun vi => ?_⟩;have hk := (hp vi).2 v;rw [comm] at hk;refine CertG.more _ _ _ _ ?_ hk;intro x hx;simp only [List.mem_cons] at hx ⊢
      rcases hx with h | h | h
      ·exact .inr (.inl h)
      ·exact .inl h
      ·exact .inr (.inr h)
    ·rename_i hwj
     simp only [if_neg hwj] at hp;rw [List.cons_append]
     unfold CertG
     rw [wi, if_pos hwi];refine ⟨fun Y hY hNY hG => by rw [runsR_put hsi h3]; exact ho Y hY hNY hG, fun vi => ?_⟩;have hk := hp vi;rw [comm] at hk;exact hk
  ·rw [if_neg hwi] at h
   have hp := CertG.pull hsj hX hN l2 l1 Fs _ hl' hF h
   unfold PulledG at hp ⊢
   rw [wj] at hp
   split
   ·rename_i hwj
    rw [if_pos hwj] at hp
    cases sj with
    | none =>
     obtain ⟨v, hq, hk⟩ := hp;refine ⟨v, by rwa [quietR_put hsj h1] at hq, ?_⟩;rw [comm] at hk;rw [List.cons_append]
     unfold CertG
     rw [wi, if_neg hwi];exact hk
    | some S =>
     obtain ⟨hq, hk⟩ := hp;refine ⟨by rwa [runsR_put hsj h1] at hq, fun v => ?_⟩;have hk := hk v;rw [comm] at hk;rw [List.cons_append]
     unfold CertG
     rw [wi, if_neg hwi];exact hk
   ·rename_i hwj
    rw [if_neg hwj, comm] at hp;rw [List.cons_append]
    unfold CertG
    rw [wi, if_neg hwi];exact hp
end
section
variable {G : Type} {P : Program} {l : List Oper} {R : World × G → World × G → Prop} {w0 : World × G} {Q : Act → World × G → Prop} {N : Nat → G → Prop}
/-- The operations, numbered, with their laws. -/
def itg {G : Type} : Nat → List Oper → List (SpecG G) → List (Nat × Oper × SpecG G)
 | _, [], _ => []
 | k, o :: l, [] => (k, o, none) :: itg (k + 1) l []
 | k, o :: l, s :: ss => (k, o, s) :: itg (k + 1) l ss
theorem itg_mem {G : Type} : ∀ (k : Nat) (l : List Oper) (ss : List (SpecG G)), (itg k l ss).Pairwise (fun x y => x.1 < y.1) ∧ (∀ it ∈ itg k l ss, k ≤ it.1 ∧ l[it.1 - k]? = some it.2.1 ∧ (it.2.2 = none ∨ it.2.2 ∈ ss)) ∧ (itg k l ss).length = l.length ∧ ∀ j o, l[j]? = some o → ∃ s, (k + j, o, s) ∈ itg k l ss
 | k, [], ss => by unfold itg; exact ⟨List.Pairwise.nil, fun it h => (by cases h), rfl, fun j o h => by cases h⟩
 | k, o :: l, [] => by
  obtain ⟨h1, h2, h3, h4⟩ := itg_mem (k + 1) l []
  unfold itg
  refine ⟨List.pairwise_cons.2 ⟨fun it hit => ?_, h1⟩, fun it hit => ?_, by simp [h3], fun j o' hj => ?_⟩
  ·have := (h2 it hit).1
   show k < it.1
   omega
  ·rcases List.mem_cons.1 hit with rfl | hit
   ·exact ⟨Nat.le_refl _, by simp, .inl rfl⟩
   ·obtain ⟨a1, a2, a3⟩ := h2 it hit
    refine ⟨by omega, ?_, a3⟩;rw [show it.1 - k = (it.1 - (k + 1)) + 1 by omega, List.getElem?_cons_succ];exact a2
  ·cases j with
   | zero =>
    simp only [List.getElem?_cons_zero, Option.some.injEq] at hj;subst hj;exact ⟨none, List.mem_cons_self⟩
   | succ j =>
    obtain ⟨s, hs⟩ := h4 j o' (by simpa using hj);exact ⟨s, List.mem_cons_of_mem _ (by rw [show k + (j + 1) = k + 1 + j by omega]; exact hs)⟩
 | k, o :: l, s :: ss => by
  obtain ⟨h1, h2, h3, h4⟩ := itg_mem (k + 1) l ss
  unfold itg
  refine ⟨List.pairwise_cons.2 ⟨fun it hit => ?_, h1⟩, fun it hit => ?_, by simp [h3], fun j o' hj => ?_⟩
  ·have := (h2 it hit).1
   show k < it.1
   omega
  ·rcases List.mem_cons.1 hit with rfl | hit
   ·exact ⟨Nat.le_refl _, by simp, .inr List.mem_cons_self⟩
   ·obtain ⟨a1, a2, a3⟩ := h2 it hit
    refine ⟨by omega, ?_, a3.imp id (List.mem_cons_of_mem _)⟩;rw [show it.1 - k = (it.1 - (k + 1)) + 1 by omega, List.getElem?_cons_succ];exact a2
  ·cases j with
   | zero =>
    simp only [List.getElem?_cons_zero, Option.some.injEq] at hj;subst hj;exact ⟨s, List.mem_cons_self⟩
   | succ j =>
    obtain ⟨s', hs⟩ := h4 j o' (by simpa using hj);exact ⟨s', List.mem_cons_of_mem _ (by rw [show k + (j + 1) = k + 1 + j by omega]; exact hs)⟩
/-- A region in the order of the text, or the beginning of one. -/
theorem certg_list {ops : Array Oper} {pre : Nat → Nat → Bool} (htr : ∀ X Y, R w0 X → R X Y → R w0 Y) {Q' : Exit → Act → World → Prop} {tail : List Oper} :
  ∀ (items : List (Nat × Oper × SpecG G)) (Fs : List (Nat × (World × G → Prop))) (a : Act) (X : World × G), (∀ it ∈ items, ∀ S, it.2.2 = some S → ∀ v X Y, S v X → R X Y → S v Y) →
   (∀ p F, (p, F) ∈ Fs → F X ∧ ∀ X Y, F X → R X Y → F Y) → R w0 X → (∀ it ∈ items, N it.1 X.2) → items.Pairwise (fun x y => x.1 < y.1) → CertG P ops R w0 (fun a X => wpList P ops Q' tail a X.1) pre N items Fs a → wpList P ops Q' (items.map (·.2.1) ++ tail) a X.1
 | [], Fs, a, X, _, hF, hX, _, _, h => h X hX fun p F hp => (hF p F hp).1
 | (k, o, s) :: items, Fs, a, X, hst, hF, hX, hN, hpw, h => by
  have hst' : ∀ it ∈ items, ∀ S, it.2.2 = some S → ∀ v X Y, S v X → R X Y → S v Y := fun it hit => hst it (List.mem_cons_of_mem _ hit)
  have hN' : ∀ it ∈ items, N it.1 X.2 := fun it hit => hN it (List.mem_cons_of_mem _ hit)
  have hpw' := (List.pairwise_cons.1 hpw).2
  have hne' : ∀ it ∈ items, it.1 ≠ k := fun it hit => by
   have := (List.pairwise_cons.1 hpw).1 it hit;simp only at this
   omega
  have keep : ∀ X', R X X' → ∀ p F, (p, F) ∈ Fs → F X' ∧ ∀ X Y, F X → R X Y → F Y := fun X' hXX p F hm => ⟨(hF p F hm).2 X X' (hF p F hm).1 hXX, (hF p F hm).2⟩
  rw [List.map_cons, List.cons_append]
  unfold CertG at h
  unfold wpList
  split
  ·rename_i hw
   rw [if_pos hw] at h;refine .inl ?_
   cases s with
   | none =>
    obtain ⟨v, hq, hc⟩ := h
    have hq := hq X hX fun p F hm _ => (hF p F hm).1
    unfold quietR at hq
    unfold Oper.wp
    simp only
    generalize (execOp a.eval o).run P X.1 = r at hq ⊢
    cases r with
    | ok n w' =>
     cases n <;> simp only [Oper.upon] at hq ⊢
     case value u => obtain ⟨rfl, rfl⟩ := hq; exact certg_list htr items Fs _ X hst' hF hX hN' hpw' hc
     case skip => obtain ⟨rfl, rfl⟩ := hq; exact certg_list htr items Fs _ X hst' hF hX hN' hpw' hc
     case enter f args =>
      obtain ⟨rfl, _, hcall⟩ := hq
      exact hcall.mono fun e w'' ⟨he, hR⟩ => by subst he; exact certg_list htr items Fs _ (w'', X.2) hst' (keep _ hR) (htr _ _ hX hR) hN' hpw' hc
    | halt x w' => exact hq.elim
   | some S =>
    obtain ⟨hq, hc⟩ := h
    have hq := hq X hX (hN _ List.mem_cons_self) fun p F hm _ => (hF p F hm).1
    have hS := hst _ List.mem_cons_self S rfl
    have fin : ∀ v Z, (∃ g, S v (Z, g) ∧ R X (Z, g) ∧ ∀ m, m ≠ k → N m X.2 → N m g) → wpList P ops Q' (items.map (·.2.1) ++ tail) (a.put o.dst v) Z := fun v Z ⟨g, h1, h2, h3⟩ =>
     certg_list htr items ((k, S v) :: Fs) _ (Z, g) hst' (fun p F hm => by
      rcases List.mem_cons.1 hm with heq | hm
      ·injection heq with e1 e2
       subst e2;exact ⟨h1, fun X Y => hS v X Y⟩
      ·exact keep _ h2 p F hm) (htr _ _ hX h2) (fun it hit => h3 it.1 (hne' it hit) (hN' it hit)) hpw' (hc v)
    unfold runsR at hq
    unfold Oper.wp
    simp only
    generalize (execOp a.eval o).run P X.1 = r at hq ⊢
    cases r with
    | ok n w' =>
     cases n <;> simp only [Oper.upon] at hq ⊢
     case value u => exact fin _ _ hq
     case skip => exact fin _ _ hq
     case enter f args =>
      exact hq.mono fun e w'' ⟨v, he, h2⟩ => by subst he; exact fin _ _ h2
    | halt x w' => exact hq.elim
  ·rename_i hw
   rw [if_neg hw] at h;exact certg_list htr items Fs _ X hst' hF hX hN' hpw' h
theorem itg_ops : ∀ (k : Nat) (l : List Oper) (ss : List (SpecG G)), (itg k l ss).map (·.2.1) = l
 | _, [], _ => by unfold itg; rfl
 | k, o :: l, [] => by unfold itg; rw [List.map_cons, itg_ops (k + 1) l []]
 | k, o :: l, s :: ss => by unfold itg; rw [List.map_cons, itg_ops (k + 1) l ss]
end
end Go.Proofs.YtffgfkcljcollaaDoor
namespace Go.Proofs.YtffgfkcljcollaaDoor
open Go.RowKit
/-- A variable that a region makes: its type, what it holds at first, what is laid into it. -/
structure Vr where
 T : TypeId
 z : List Value
 v : List Value
/-- The ghost: which variable a block is. -/
abbrev Gh := Nat → Option Nat
def Gok (V : Nat → Vr) (B : Nat) (X : World × Gh) : Prop := (∀ g i, X.2 g = some i → B ≤ g ∧ g < X.1.heap.size ∧ (Blk X.1 g (V i).T (V i).z ∨ Blk X.1 g (V i).T (V i).v)) ∧ ∀ g g' i, X.2 g = some i → X.2 g' = some i → g = g'
def Gr (V : Nat → Vr) (B : Nat) (X Y : World × Gh) : Prop :=
 Gok V B X ∧ Gok V B Y ∧ Below B X.1 Y.1 ∧ (∀ g i, X.2 g = some i → Y.2 g = some i) ∧ ∀ g i, X.2 g = some i → Blk X.1 g (V i).T (V i).v → Blk Y.1 g (V i).T (V i).v
section
variable {V : Nat → Vr} {B : Nat}
theorem Gr.trans {X Y Z : World × Gh} (h : Gr V B X Y) (h' : Gr V B Y Z) : Gr V B X Z :=
 ⟨h.1, h'.2.1, h.2.2.1.trans h'.2.2.1, fun g i hi => h'.2.2.2.1 g i (h.2.2.2.1 g i hi), fun g i hi hb => h'.2.2.2.2 g i (h.2.2.2.1 g i hi) (h.2.2.2.2 g i hi hb)⟩
theorem Gok.since {X : World × Gh} (h : Gok V B X) {Y : World} (hS : Since X.1 Y) : Gok V B (Y, X.2) := ⟨fun g i hi => by
 obtain ⟨h1, h2, h3⟩ := h.1 g i hi
 exact ⟨h1, Nat.lt_of_lt_of_le h2 hS.size, h3.imp (fun hb => hb.below hS hb.lt) (fun hb => hb.below hS hb.lt)⟩, h.2⟩
theorem Gr.since {X : World × Gh} (h : Gok V B X) (hB : B ≤ X.1.heap.size) {Y : World} (hS : Since X.1 Y) : Gr V B X (Y, X.2) :=
 ⟨h, h.since hS, hS.mono hB, fun _ _ hi => hi, fun _ _ _ hb => hb.below hS hb.lt⟩
/-- The variable lies at v. -/
def Gat (V : Nat → Vr) (B i : Nat) (v : Value) (X : World × Gh) : Prop := Gok V B X ∧ ∃ g, v = .pointer (some ⟨g, 0, none⟩) ∧ X.2 g = some i
theorem Gat.lasts {i : Nat} (v : Value) (X Y : World × Gh) (h : Gat V B i v X) (hR : Gr V B X Y) : Gat V B i v Y := by
 obtain ⟨_, g, h1, h2⟩ := h;exact ⟨hR.2.1, g, h1, hR.2.2.2.1 g i h2⟩
/-- The variable is laid. -/
def Gst (V : Nat → Vr) (i : Nat) (_ : Value) (X : World × Gh) : Prop := ∃ g, X.2 g = some i ∧ Blk X.1 g (V i).T (V i).v
theorem Gst.lasts {i : Nat} (u : Value) (X Y : World × Gh) (h : Gst V i u X) (hR : Gr V B X Y) : Gst V i u Y := by
 obtain ⟨g, h1, h2⟩ := h;exact ⟨g, hR.2.2.2.1 g i h1, hR.2.2.2.2 g i h1 h2⟩
/-- What is known of a variable that was made and laid. -/
theorem Gst.at {i : Nat} {v u : Value} {X : World} {σ : Gh} (h : Gat V B i v (X, σ)) (h' : Gst V i u (X, σ)) : ∃ g, v = .pointer (some ⟨g, 0, none⟩) ∧ B ≤ g ∧ Blk X g (V i).T (V i).v ∧ σ g = some i := by
 obtain ⟨hk, g, h1, h2⟩ := h;obtain ⟨g', h4, h5⟩ := h';obtain rfl := hk.2 g g' i h2 h4;exact ⟨g, h1, (hk.1 g i h2).1, h5, h2⟩
end
/-- The walk that is left. -/
structure CertH (P : Program) (ops : Array Oper) (V : Nat → Vr) (w : World) (Q : Act → World → Prop) (pre : Nat → Nat → Bool) (l : List (Nat × Oper × SpecG Gh)) (Fs : List (Nat × (World × Gh → Prop))) (a : Act) : Prop where
 out : CertG P ops (Gr V w.heap.size) (w, fun _ => none) (fun a X => Q a X.1) pre (fun k σ => ∀ g, σ g ≠ some k) l Fs a
section
variable {P : Program} {ops : Array Oper} {V : Nat → Vr} {w : World} {Q : Act → World → Prop} {pre : Nat → Nat → Bool} {a a' : Act} {k : Nat} {o : Oper} {l : List (Nat × Oper × SpecG Gh)} {Fs : List (Nat × (World × Gh → Prop))}
theorem Gr.ww {X : World × Gh} (h : Gr V w.heap.size (w, fun _ => none) X) : Since w X.1 := h.2.2.1
theorem kg (v : Value) (hq : ∀ X : World, Since w X → True → (execOp a.eval o).run P X = .ok (.value v) X) (h : CertH P ops V w Q pre l Fs a') (hw : Region.wanted o (yielded ops a.tmps) = true := by rfl)
  (hp : a.put o.dst v = a' := by simp only [pX, st, rt, rz]; rfl) : CertH P ops V w Q pre ((k, o, none) :: l) Fs a := by
 refine ⟨?_⟩
 unfold CertG
 rw [if_pos hw];refine ⟨v, fun X hX _ => ?_, hp ▸ h.out⟩
 unfold quietR
 rw [hq X.1 hX.ww trivial];exact ⟨rfl, rfl⟩
theorem kv (v : Value) (hq : ∀ X : World, (execOp a.eval o).run P X = .ok (.value v) X) (h : CertH P ops V w Q pre l Fs a') (hw : Region.wanted o (yielded ops a.tmps) = true := by rfl)
  (hp : a.put o.dst v = a' := by simp only [pX, st, rt, rz]; rfl) : CertH P ops V w Q pre ((k, o, none) :: l) Fs a := kg v (fun X _ _ => hq X) h hw hp
end
end Go.Proofs.YtffgfkcljcollaaDoor
