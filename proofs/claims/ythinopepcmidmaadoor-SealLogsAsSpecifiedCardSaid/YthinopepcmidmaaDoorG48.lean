/-
  Words for walks over structs, in seats without numbers.
-/
import Derived.Deep.Cut
import Derived.Deep.DeepCutAuto
import Derived.BigRegion
import Derived.RegionTactic
import Derived.Test.YthinopepcmidmaaDoorWk02q
import Derived.Test.YthinopepcmidmaaDoorMB
set_option linter.unusedSimpArgs false
set_option linter.unusedVariables false
set_option maxRecDepth 100000
set_option maxHeartbeats 1600000
namespace Go.Proofs.YthinopepcmidmaaDoor
open Go.RowKit
section
variable {P : Program} {c : Code} {Q : Exit → Act → World → Prop} {t : List Value} {ds : List Deferred} {w : World}
end
end Go.Proofs.YthinopepcmidmaaDoor
namespace Go.Proofs.YthinopepcmidmaaDoor
open Go
abbrev SpecG (G : Type) := Option (Value → World × G → Prop)
/-- The walk in the order of the text. 'pre k p': operation k comes behind operation p in every order. -/
def CertG {G : Type} (P : Program) (ops : Array Oper) (R : World × G → World × G → Prop) (w0 : World × G) (Q : Act → World × G → Prop) (pre : Nat → Nat → Bool) (N : Nat → G → Prop) :
    List (Nat × Oper × SpecG G) → List (Nat × (World × G → Prop)) → Act → Prop
  | [], Fs, a => ∀ X, R w0 X → (∀ p F, (p, F) ∈ Fs → F X) → Q a X
  | (k, o, s) :: l, Fs, a =>
    if Region.wanted o (yielded ops a.tmps) = true then
      match s with
      | none => ∃ v, (∀ X, R w0 X → (∀ p F, (p, F) ∈ Fs → pre k p = true → F X) → quietR P o a (fun _ Z => R X (Z, X.2)) X.1 v) ∧ CertG P ops R w0 Q pre N l Fs (a.put o.dst v)
      | some S => (∀ X, R w0 X → N k X.2 → (∀ p F, (p, F) ∈ Fs → pre k p = true → F X) → runsR P o a X.1 (fun u Z => ∃ g, S u (Z, g) ∧ R X (Z, g) ∧ ∀ m, m ≠ k → N m X.2 → N m g)) ∧
          ∀ v, CertG P ops R w0 Q pre N l ((k, S v) :: Fs) (a.put o.dst v)
    else CertG P ops R w0 Q pre N l Fs (a.put o.dst undef)
section
variable {G : Type} {P : Program} {ops : Array Oper} {R : World × G → World × G → Prop} {w0 : World × G} {Q : Act → World × G → Prop} {pre : Nat → Nat → Bool} {N : Nat → G → Prop}
theorem CertG.more : ∀ (l : List (Nat × Oper × SpecG G)) (Fs Gs : List (Nat × (World × G → Prop))) (a : Act), (∀ x, x ∈ Fs → x ∈ Gs) → CertG P ops R w0 Q pre N l Fs a → CertG P ops R w0 Q pre N l Gs a
  | [], Fs, Gs, a, hs, h => fun X hX hG => h X hX fun p F hp => hG p F (hs _ hp)
  | (k, o, s) :: l, Fs, Gs, a, hs, h => by
    unfold CertG at h ⊢
    split
    · rename_i hw
      rw [if_pos hw] at h
      cases s with
      | none =>
        obtain ⟨v, h1, h2⟩ := h
        exact ⟨v, fun X hX hG => h1 X hX fun p F hp => hG p F (hs _ hp), CertG.more l _ _ _ hs h2⟩
      | some S =>
        obtain ⟨h1, h2⟩ := h
        refine ⟨fun X hX hN hG => h1 X hX hN fun p F hp => hG p F (hs _ hp), fun v => CertG.more l _ _ _ ?_ (h2 v)⟩
        intro x hx
        rcases List.mem_cons.1 hx with rfl | hx
        · exact List.mem_cons_self
        · exact List.mem_cons_of_mem _ (hs _ hx)
    · rename_i hw
      rw [if_neg hw] at h
      exact CertG.more l _ _ _ hs h
/-- What pulling an operation to the front leaves. -/
def PulledG {G : Type} (P : Program) (ops : Array Oper) (R : World × G → World × G → Prop) (w0 : World × G) (Q : Act → World × G → Prop) (pre : Nat → Nat → Bool) (N : Nat → G → Prop) (X : World × G) (j : Nat) (oj : Oper) (sj : SpecG G)
    (l : List (Nat × Oper × SpecG G)) (Fs : List (Nat × (World × G → Prop))) (a : Act) : Prop :=
  if Region.wanted oj (yielded ops a.tmps) = true then
    match sj with
    | none => ∃ v, quietR P oj a (fun _ Z => R X (Z, X.2)) X.1 v ∧ CertG P ops R w0 Q pre N l Fs (a.put oj.dst v)
    | some S => runsR P oj a X.1 (fun u Z => ∃ g, S u (Z, g) ∧ R X (Z, g) ∧ ∀ m, m ≠ j → N m X.2 → N m g) ∧ ∀ v, CertG P ops R w0 Q pre N l ((j, S v) :: Fs) (a.put oj.dst v)
  else CertG P ops R w0 Q pre N l Fs (a.put oj.dst undef)
theorem CertG.pull {X : World × G} {j : Nat} {oj : Oper} {sj : SpecG G} (hsj : ∀ cs b, oj.op ≠ .select cs b) (hX : R w0 X) (hN : N j X.2) (l2 : List (Nat × Oper × SpecG G)) :
    ∀ (l1 : List (Nat × Oper × SpecG G)) (Fs : List (Nat × (World × G → Prop))) (a : Act),
      (∀ it ∈ l1, it.2.1.apart ops oj = true ∧ pre j it.1 = false ∧ ∀ cs b, it.2.1.op ≠ .select cs b) →
      (∀ p F, (p, F) ∈ Fs → pre j p = true → F X) →
      CertG P ops R w0 Q pre N (l1 ++ (j, oj, sj) :: l2) Fs a → PulledG P ops R w0 Q pre N X j oj sj (l1 ++ l2) Fs a
  | [], Fs, a, _, hF, h => by
    unfold PulledG
    simp only [List.nil_append] at h ⊢
    unfold CertG at h
    split
    · rename_i hw
      rw [if_pos hw] at h
      cases sj with
      | none => obtain ⟨v, h1, h2⟩ := h; exact ⟨v, h1 X hX hF, h2⟩
      | some S => obtain ⟨h1, h2⟩ := h; exact ⟨h1 X hX hN hF, h2⟩
    · rename_i hw
      rw [if_neg hw] at h
      exact h
  | (i, oi, si) :: l1, Fs, a, hl, hF, h => by
    obtain ⟨hap, hpre, hsi⟩ := hl _ List.mem_cons_self
    obtain ⟨h1, h2, h3⟩ := Oper.apart_spec hap
    simp only at h1 h2 h3 hpre hsi
    have hl' := fun it hit => hl it (List.mem_cons_of_mem _ hit)
    have comm : ∀ u v, (a.put oi.dst u).put oj.dst v = (a.put oj.dst v).put oi.dst u := fun u v => Act.put_comm a u v h2
    have wj : ∀ u, Region.wanted oj (yielded ops (a.put oi.dst u).tmps) = Region.wanted oj (yielded ops a.tmps) := fun u => wanted_put oj a oi.dst u h1
    have wi : ∀ v, Region.wanted oi (yielded ops (a.put oj.dst v).tmps) = Region.wanted oi (yielded ops a.tmps) := fun v => wanted_put oi a oj.dst v h3
    rw [List.cons_append] at h
    unfold CertG at h
    by_cases hwi : Region.wanted oi (yielded ops a.tmps) = true
    · rw [if_pos hwi] at h
      cases si with
      | none =>
        obtain ⟨vi, ho, hc⟩ := h
        have hp := CertG.pull hsj hX hN l2 l1 Fs _ hl' hF hc
        unfold PulledG at hp ⊢
        rw [wj] at hp
        split
        · rename_i hwj
          rw [if_pos hwj] at hp
          cases sj with
          | none =>
            obtain ⟨v, hq, hk⟩ := hp
            refine ⟨v, by rwa [quietR_put hsj h1] at hq, ?_⟩
            rw [comm] at hk
            rw [List.cons_append]
            unfold CertG
            rw [wi, if_pos hwi]
            exact ⟨vi, fun Y hY hG => by rw [quietR_put hsi h3]; exact ho Y hY hG, hk⟩
          | some S =>
            obtain ⟨hq, hk⟩ := hp
            refine ⟨by rwa [runsR_put hsj h1] at hq, fun v => ?_⟩
            have hk := hk v
            rw [comm] at hk
            rw [List.cons_append]
            unfold CertG
            rw [wi, if_pos hwi]
            exact ⟨vi, fun Y hY hG => by rw [quietR_put hsi h3]; exact ho Y hY fun p F hp => hG p F (List.mem_cons_of_mem _ hp), hk⟩
        · rename_i hwj
          rw [if_neg hwj, comm] at hp
          rw [List.cons_append]
          unfold CertG
          rw [wi, if_pos hwi]
          exact ⟨vi, fun Y hY hG => by rw [quietR_put hsi h3]; exact ho Y hY hG, hp⟩
      | some Si =>
        obtain ⟨ho, hc⟩ := h
        have hp : ∀ vi, PulledG P ops R w0 Q pre N X j oj sj (l1 ++ l2) ((i, Si vi) :: Fs) (a.put oi.dst vi) := fun vi => CertG.pull hsj hX hN l2 l1 _ _ hl' (by
          intro p F hm hpj
          rcases List.mem_cons.1 hm with heq | hm
          · injection heq with e1 _
            rw [e1, hpre] at hpj
            cases hpj
          · exact hF p F hm hpj) (hc vi)
        unfold PulledG at hp ⊢
        simp only [wj] at hp
        split
        · rename_i hwj
          simp only [if_pos hwj] at hp
          cases sj with
          | none =>
            simp only [quietR_put hsj h1] at hp
            obtain ⟨v, hq, _⟩ := hp undef
            refine ⟨v, hq, ?_⟩
            rw [List.cons_append]
            unfold CertG
            rw [wi, if_pos hwi]
            refine ⟨fun Y hY hNY hG => by rw [runsR_put hsi h3]; exact ho Y hY hNY hG, fun vi => ?_⟩
            obtain ⟨v', hq', hk⟩ := hp vi
            obtain rfl := quietR_det hq hq'
            rw [comm] at hk
            exact hk
          | some S =>
            simp only [runsR_put hsj h1] at hp
            refine ⟨(hp undef).1, fun v => ?_⟩
            rw [List.cons_append]
            unfold CertG
            rw [wi, if_pos hwi]
            refine ⟨fun Y hY hNY hG => by rw [runsR_put hsi h3]; exact ho Y hY hNY fun p F hp => hG p F (List.mem_cons_of_mem _ hp), fun vi => ?_⟩
            have hk := (hp vi).2 v
            rw [comm] at hk
            refine CertG.more _ _ _ _ ?_ hk
            intro x hx
            simp only [List.mem_cons] at hx ⊢
            rcases hx with h | h | h
            · exact .inr (.inl h)
            · exact .inl h
            · exact .inr (.inr h)
        · rename_i hwj
          simp only [if_neg hwj] at hp
          rw [List.cons_append]
          unfold CertG
          rw [wi, if_pos hwi]
          refine ⟨fun Y hY hNY hG => by rw [runsR_put hsi h3]; exact ho Y hY hNY hG, fun vi => ?_⟩
          have hk := hp vi
          rw [comm] at hk
          exact hk
    · rw [if_neg hwi] at h
      have hp := CertG.pull hsj hX hN l2 l1 Fs _ hl' hF h
      unfold PulledG at hp ⊢
      rw [wj] at hp
      split
      · rename_i hwj
        rw [if_pos hwj] at hp
        cases sj with
        | none =>
          obtain ⟨v, hq, hk⟩ := hp
          refine ⟨v, by rwa [quietR_put hsj h1] at hq, ?_⟩
          rw [comm] at hk
          rw [List.cons_append]
          unfold CertG
          rw [wi, if_neg hwi]
          exact hk
        | some S =>
          obtain ⟨hq, hk⟩ := hp
          refine ⟨by rwa [runsR_put hsj h1] at hq, fun v => ?_⟩
          have hk := hk v
          rw [comm] at hk
          rw [List.cons_append]
          unfold CertG
          rw [wi, if_neg hwi]
          exact hk
      · rename_i hwj
        rw [if_neg hwj, comm] at hp
        rw [List.cons_append]
        unfold CertG
        rw [wi, if_neg hwi]
        exact hp
end
section
variable {G : Type} {P : Program} {l : List Oper} {R : World × G → World × G → Prop} {w0 : World × G} {Q : Act → World × G → Prop} {N : Nat → G → Prop}
end
end Go.Proofs.YthinopepcmidmaaDoor
namespace Go.Proofs.YthinopepcmidmaaDoor
open Go.RowKit
/-- A variable that a region makes: its type, what it holds at first, what is laid into it. -/
structure Vr where
  T : TypeId
  z : List Value
  v : List Value
/-- The ghost: which variable a block is. -/
abbrev Gh := Nat → Option Nat
def Gok (V : Nat → Vr) (B : Nat) (X : World × Gh) : Prop := (∀ g i, X.2 g = some i → B ≤ g ∧ g < X.1.heap.size ∧ (Blk X.1 g (V i).T (V i).z ∨ Blk X.1 g (V i).T (V i).v)) ∧ ∀ g g' i, X.2 g = some i → X.2 g' = some i → g = g'
def Gr (V : Nat → Vr) (B : Nat) (X Y : World × Gh) : Prop :=
  Gok V B X ∧ Gok V B Y ∧ Below B X.1 Y.1 ∧ (∀ g i, X.2 g = some i → Y.2 g = some i) ∧ ∀ g i, X.2 g = some i → Blk X.1 g (V i).T (V i).v → Blk Y.1 g (V i).T (V i).v
section
variable {V : Nat → Vr} {B : Nat}
theorem Gr.trans {X Y Z : World × Gh} (h : Gr V B X Y) (h' : Gr V B Y Z) : Gr V B X Z :=
  ⟨h.1, h'.2.1, h.2.2.1.trans h'.2.2.1, fun g i hi => h'.2.2.2.1 g i (h.2.2.2.1 g i hi), fun g i hi hb => h'.2.2.2.2 g i (h.2.2.2.1 g i hi) (h.2.2.2.2 g i hi hb)⟩
theorem Gok.since {X : World × Gh} (h : Gok V B X) {Y : World} (hS : Since X.1 Y) : Gok V B (Y, X.2) := ⟨fun g i hi => by
  obtain ⟨h1, h2, h3⟩ := h.1 g i hi
  exact ⟨h1, Nat.lt_of_lt_of_le h2 hS.size, h3.imp (fun hb => hb.below hS hb.lt) (fun hb => hb.below hS hb.lt)⟩, h.2⟩
theorem Gr.since {X : World × Gh} (h : Gok V B X) (hB : B ≤ X.1.heap.size) {Y : World} (hS : Since X.1 Y) : Gr V B X (Y, X.2) :=
  ⟨h, h.since hS, hS.mono hB, fun _ _ hi => hi, fun _ _ _ hb => hb.below hS hb.lt⟩
/-- The variable lies at v. -/
def Gat (V : Nat → Vr) (B i : Nat) (v : Value) (X : World × Gh) : Prop := Gok V B X ∧ ∃ g, v = .pointer (some ⟨g, 0, none⟩) ∧ X.2 g = some i
theorem Gat.lasts {i : Nat} (v : Value) (X Y : World × Gh) (h : Gat V B i v X) (hR : Gr V B X Y) : Gat V B i v Y := by
  obtain ⟨_, g, h1, h2⟩ := h
  exact ⟨hR.2.1, g, h1, hR.2.2.2.1 g i h2⟩
/-- The variable is laid. -/
def Gst (V : Nat → Vr) (i : Nat) (_ : Value) (X : World × Gh) : Prop := ∃ g, X.2 g = some i ∧ Blk X.1 g (V i).T (V i).v
theorem Gst.lasts {i : Nat} (u : Value) (X Y : World × Gh) (h : Gst V i u X) (hR : Gr V B X Y) : Gst V i u Y := by
  obtain ⟨g, h1, h2⟩ := h
  exact ⟨g, hR.2.2.2.1 g i h1, hR.2.2.2.2 g i h1 h2⟩
/-- What is known of a variable that was made and laid. -/
theorem Gst.at {i : Nat} {v u : Value} {X : World} {σ : Gh} (h : Gat V B i v (X, σ)) (h' : Gst V i u (X, σ)) : ∃ g, v = .pointer (some ⟨g, 0, none⟩) ∧ B ≤ g ∧ Blk X g (V i).T (V i).v ∧ σ g = some i := by
  obtain ⟨hk, g, h1, h2⟩ := h
  obtain ⟨g', h4, h5⟩ := h'
  obtain rfl := hk.2 g g' i h2 h4
  exact ⟨g, h1, (hk.1 g i h2).1, h5, h2⟩
end
/-- The walk that is left. -/
structure CertH (P : Program) (ops : Array Oper) (V : Nat → Vr) (w : World) (Q : Act → World → Prop) (pre : Nat → Nat → Bool) (l : List (Nat × Oper × SpecG Gh)) (Fs : List (Nat × (World × Gh → Prop))) (a : Act) : Prop where
  out : CertG P ops (Gr V w.heap.size) (w, fun _ => none) (fun a X => Q a X.1) pre (fun k σ => ∀ g, σ g ≠ some k) l Fs a
section
variable {P : Program} {ops : Array Oper} {V : Nat → Vr} {w : World} {Q : Act → World → Prop} {pre : Nat → Nat → Bool} {a a' : Act} {k : Nat} {o : Oper} {l : List (Nat × Oper × SpecG Gh)} {Fs : List (Nat × (World × Gh → Prop))}
theorem Gr.ww {X : World × Gh} (h : Gr V w.heap.size (w, fun _ => none) X) : Since w X.1 := h.2.2.1
theorem kg (v : Value) (hq : ∀ X : World, Since w X → True → (execOp a.eval o).run P X = .ok (.value v) X) (h : CertH P ops V w Q pre l Fs a') (hw : Region.wanted o (yielded ops a.tmps) = true := by rfl)
    (hp : a.put o.dst v = a' := by simp only [pX, st, rt, rz]; rfl) : CertH P ops V w Q pre ((k, o, none) :: l) Fs a := by
  refine ⟨?_⟩
  unfold CertG
  rw [if_pos hw]
  refine ⟨v, fun X hX _ => ?_, hp ▸ h.out⟩
  unfold quietR
  rw [hq X.1 hX.ww trivial]
  exact ⟨rfl, rfl⟩
theorem kv (v : Value) (hq : ∀ X : World, (execOp a.eval o).run P X = .ok (.value v) X) (h : CertH P ops V w Q pre l Fs a') (hw : Region.wanted o (yielded ops a.tmps) = true := by rfl)
    (hp : a.put o.dst v = a' := by simp only [pX, st, rt, rz]; rfl) : CertH P ops V w Q pre ((k, o, none) :: l) Fs a := kg v (fun X _ _ => hq X) h hw hp
theorem ks {s : SpecG Gh} (h : CertH P ops V w Q pre l Fs a') (hw : Region.wanted o (yielded ops a.tmps) = false := by rfl) (hp : a.put o.dst undef = a' := by simp only [pX, st, rt, rz]; rfl) : CertH P ops V w Q pre ((k, o, s) :: l) Fs a := by
  refine ⟨?_⟩
  unfold CertG
  rw [if_neg (by rw [hw]; exact Bool.false_ne_true)]
  exact hp ▸ h.out
theorem kc {f : FuncId} {args : List Value} (v : Value) (hc : ∀ X, Since w X → True → Calls P f args.toArray X fun e X' => e = .returned v ∧ Since X X') (h : CertH P ops V w Q pre l Fs a') (hw : Region.wanted o (yielded ops a.tmps) = true := by rfl)
    {xs : List Operand} {ts : Array TypeId} (ho : o.op = .call { callee := .value (.func f), args := xs.toArray, argTypes := ts } := by rfl) (he : xs.map a.eval = args := by rfl) (hi : P.inits.idxOf? f = none := by kernel_rfl) (hf : ∀ X : World, (callFunc f args.toArray).run P X = .ok (.enter f args.toArray) X := by intro _; go_simp)
    (hp : a.put o.dst v = a' := by simp only [pX, st, rt, rz]; rfl) : CertH P ops V w Q pre ((k, o, none) :: l) Fs a := by
  refine ⟨?_⟩
  unfold CertG
  rw [if_pos hw]
  refine ⟨v, fun X hX hF => ?_, hp ▸ h.out⟩
  have hc := hc X.1 hX.ww trivial
  have he2 : xs.toArray.map a.eval = args.toArray := by rw [List.map_toArray, he]
  have hrun : (execOp a.eval o).run P X.1 = .ok (.enter f args.toArray) X.1 := by
    unfold execOp
    rw [ho]
    have hfX := hf X.1
    go_simp
  unfold quietR
  rw [hrun]
  exact ⟨rfl, hi, hc.mono fun e X' ⟨h1, h2⟩ => ⟨h1, Gr.since hX.2.1 hX.ww.size h2⟩⟩
/-- It is laid. -/
theorem kt (i p : Nat) (v : Value) (hmem : (p, Gat V w.heap.size i v) ∈ Fs) {ty : TypeId} (hi : (P.info? ty).map (·.size) = some (V i).v.length) (h : CertH P ops V w Q pre l ((k, Gst V i undef) :: Fs) a) (hpre : pre k p = true := by rfl) (h1 : (V i).v.all Value.oneCell' = true := by rfl) (hl : (V i).v.length = (V i).z.length := by rfl)
    (hw : Region.wanted o (yielded ops a.tmps) = true := by rfl) {x y : Operand} (ho : o.op = .store ty x y := by rfl) (hdst : o.dst = none := by rfl) (hx : a.eval x = v := by rfl) (hy : a.eval y = .agg (V i).v.toArray := by rfl) :
    CertH P ops V w Q pre ((k, o, some (fun _ X => Gst V i undef X)) :: l) Fs a := by
  refine ⟨?_⟩
  unfold CertG
  rw [if_pos hw]
  refine ⟨fun X hX _ hF => ?_, fun _ => by rw [hdst]; exact h.out⟩
  obtain ⟨hG, g, rfl, hg⟩ := hF _ _ hmem hpre
  have h1' : ∀ u ∈ (V i).v, u.oneCell' = true := List.all_eq_true.1 h1
  have key : ∀ zs, Blk X.1 g (V i).T zs → zs.length = (V i).v.length → runsR P o a X.1 (fun u Z => ∃ σ, Gst V i undef (Z, σ) ∧ Gr V w.heap.size X (Z, σ) ∧ ∀ m, m ≠ k → (∀ g, X.2 g ≠ some m) → ∀ g, σ g ≠ some m) := fun zs hz hlz => by
    have hr := run_storeVar_row (P := P) ty g (V i).T zs.toArray (V i).v.toArray hz (by simp [hlz]) (by simpa using h1') (by simpa using hi)
    have h9 : Blk (X.1.setRow g (V i).v.toArray) g (V i).T (V i).v := setRow_heap X.1 g zs.toArray (V i).v.toArray (V i).T (0, 0) hz
    unfold runsR execOp
    simp only [ho, hx, hy, Instr.storeAt, Instr.sureAddr, Sem.run_bind, Sem.run_pure, Result.andThen_ok, hr]
    have hgr := setRow_grown X.1 g (V i).v.toArray
    have hsz : (X.1.setRow g (V i).v.toArray).heap.size = X.1.heap.size := by simp [World.setRow]
    have oth : ∀ g' t xs, g' ≠ g → Blk X.1 g' t xs → Blk (X.1.setRow g (V i).v.toArray) g' t xs := fun g' t xs hne hb => (grown_block hgr hb.lt hne).trans hb
    have tag : ∀ j, X.2 g = some j → j = i := fun j hj => by
      rw [hg] at hj
      injection hj with hj
      exact hj.symm
    refine ⟨X.2, ⟨g, hg, h9⟩, ⟨hG, ⟨fun g' j hj => ?_, hG.2⟩, ?_, fun _ _ hj => hj, fun g' j hj hb => ?_⟩, fun _ _ h => h⟩
    · obtain ⟨a1, a2, a3⟩ := hG.1 g' j hj
      refine ⟨a1, by simp only; rw [hsz]; exact a2, ?_⟩
      by_cases hne : g' = g
      · subst hne
        obtain rfl := tag j hj
        exact .inr h9
      · exact a3.imp (oth g' _ _ hne) (oth g' _ _ hne)
    · refine ⟨rfl, rfl, rfl, Nat.le_of_eq hsz.symm, fun k hk => ?_⟩
      have := (hG.1 g i hg).1
      have h8 := hX.ww.size
      exact grown_block hgr (by omega) (by omega)
    · by_cases hne : g' = g
      · subst hne
        obtain rfl := tag j hj
        exact h9
      · exact oth g' _ _ hne hb
  rcases (hG.1 g i hg).2.2 with hq | hq
  · exact key _ hq hl.symm
  · exact key _ hq rfl
end
end Go.Proofs.YthinopepcmidmaaDoor
namespace Go.Proofs.YthinopepcmidmaaDoor
open Go.RowKit
/-- A variable that a region makes: its type, what it holds at first, what is known of what is laid into it. -/
structure Vq where
  T : TypeId
  z : List Value
  p : List Value → World × Gh → Prop
/-- A block that stands, and is none of the region's own. -/
def Un (X : World × Gh) (b : Nat) : Prop := b < X.1.heap.size ∧ X.2 b = none
structure Qr (B : Nat) (X Y : World × Gh) : Prop where
  below : Below B X.1 Y.1
  un : ∀ b, Un X b → Un Y b ∧ Y.1.heap[b]? = X.1.heap[b]?
  tag : ∀ g i, X.2 g = some i → Y.2 g = some i
theorem Qr.trans {B : Nat} {X Y Z : World × Gh} (h : Qr B X Y) (h' : Qr B Y Z) : Qr B X Z :=
  ⟨h.below.trans h'.below, fun b hb => ⟨(h'.un b (h.un b hb).1).1, (h'.un b (h.un b hb).1).2.trans (h.un b hb).2⟩, fun g i hi => h'.tag g i (h.tag g i hi)⟩
theorem Qr.since {B : Nat} {X : World × Gh} (hB : B ≤ X.1.heap.size) {Y : World} (hS : Since X.1 Y) : Qr B X (Y, X.2) :=
  ⟨hS.mono hB, fun b hb => ⟨⟨Nat.lt_of_lt_of_le hb.1 hS.size, hb.2⟩, hS.block b hb.1⟩, fun _ _ h => h⟩
def LastQ (B : Nat) (p : World × Gh → Prop) : Prop := ∀ X Y, p X → Qr B X Y → p Y
def Laid (V : Nat → Vq) (i g : Nat) (X : World × Gh) : Prop := ∃ vs, Blk X.1 g (V i).T vs ∧ (V i).p vs X
structure Qok (V : Nat → Vq) (B : Nat) (X : World × Gh) : Prop where
  at_ : ∀ g i, X.2 g = some i → B ≤ g ∧ g < X.1.heap.size ∧ ∃ zs, Blk X.1 g (V i).T zs ∧ zs.length = (V i).z.length
  one : ∀ g g' i, X.2 g = some i → X.2 g' = some i → g = g'
  las : ∀ i vs, LastQ B ((V i).p vs)
structure Gq (V : Nat → Vq) (B : Nat) (X Y : World × Gh) : Prop where
  l : Qok V B X
  r : Qok V B Y
  q : Qr B X Y
  laid : ∀ g i, X.2 g = some i → Laid V i g X → Laid V i g Y
section
variable {V : Nat → Vq} {B : Nat}
theorem Gq.trans {X Y Z : World × Gh} (h : Gq V B X Y) (h' : Gq V B Y Z) : Gq V B X Z :=
  ⟨h.l, h'.r, h.q.trans h'.q, fun g i hi hl => h'.laid g i (h.q.tag g i hi) (h.laid g i hi hl)⟩
theorem Qok.since {X : World × Gh} (h : Qok V B X) {Y : World} (hS : Since X.1 Y) : Qok V B (Y, X.2) := ⟨fun g i hi => by
  obtain ⟨h1, h2, zs, h3, h4⟩ := h.at_ g i hi
  exact ⟨h1, Nat.lt_of_lt_of_le h2 hS.size, zs, h3.below hS h3.lt, h4⟩, h.one, h.las⟩
theorem Gq.since {X : World × Gh} (h : Qok V B X) (hB : B ≤ X.1.heap.size) {Y : World} (hS : Since X.1 Y) : Gq V B X (Y, X.2) :=
  ⟨h, h.since hS, Qr.since hB hS, fun g i _ ⟨vs, h1, h2⟩ => ⟨vs, h1.below hS h1.lt, h.las i vs _ _ h2 (Qr.since hB hS)⟩⟩
/-- The variable lies at v. -/
def Gaq (V : Nat → Vq) (B i : Nat) (v : Value) (X : World × Gh) : Prop := Qok V B X ∧ ∃ g, v = .pointer (some ⟨g, 0, none⟩) ∧ X.2 g = some i
theorem Gaq.lasts {i : Nat} (v : Value) (X Y : World × Gh) (h : Gaq V B i v X) (hR : Gq V B X Y) : Gaq V B i v Y := by
  obtain ⟨_, g, h1, h2⟩ := h
  exact ⟨hR.r, g, h1, hR.q.tag g i h2⟩
/-- The variable is laid. -/
def Gsq (V : Nat → Vq) (i : Nat) (_ : Value) (X : World × Gh) : Prop := ∃ g, X.2 g = some i ∧ Laid V i g X
theorem Gsq.lasts {i : Nat} (u : Value) (X Y : World × Gh) (h : Gsq V i u X) (hR : Gq V B X Y) : Gsq V i u Y := by
  obtain ⟨g, h1, h2⟩ := h
  exact ⟨g, hR.q.tag g i h1, hR.laid g i h1 h2⟩
theorem Gsq.at {i : Nat} {v u : Value} {X : World} {σ : Gh} (h : Gaq V B i v (X, σ)) (h' : Gsq V i u (X, σ)) : ∃ g vs, v = .pointer (some ⟨g, 0, none⟩) ∧ B ≤ g ∧ Blk X g (V i).T vs ∧ (V i).p vs (X, σ) ∧ σ g = some i := by
  obtain ⟨hk, g, h1, h2⟩ := h
  obtain ⟨g', h4, vs, h5, h6⟩ := h'
  obtain rfl := hk.one g g' i h2 h4
  exact ⟨g, vs, h1, (hk.at_ g i h2).1, h5, h6, h2⟩
/-- A slice that reads as xs, in no block of the region's own. -/
def Rdu (X : World × Gh) (m : Nat) (v : Value) (n : Nat) (xs : List Value) : Prop := Rd X.1 m v n xs ∧ ∀ b off k c, v = .slice (some ⟨b, off, none⟩) k c → 0 < n → X.2 b = none
theorem cell_same {X Y : World} {b k : Nat} (h : Y.heap[b]? = X.heap[b]?) : Y.cell? ⟨b, k, none⟩ = X.cell? ⟨b, k, none⟩ := World.cell?_of_block (w := X) (a := ⟨b, k, none⟩) h
theorem Rdu.q {X Y : World × Gh} {m n : Nat} {v : Value} {xs : List Value} (h : Rdu X m v n xs) (hq : Qr B X Y) : Rdu Y m v n xs := by
  obtain ⟨⟨hl, A, c, hv, hc, hm, hz, hr⟩, hu⟩ := h
  refine ⟨⟨hl, A, c, hv, hc, hm, hz, fun hn => ?_⟩, fun b off k c' hv' hn => ?_⟩
  · obtain ⟨b, off, hA, hb, hx⟩ := hr hn
    subst hA
    obtain ⟨h1, h2⟩ := hq.un b ⟨hb, hu b off n c hv hn⟩
    exact ⟨b, off, rfl, h1.1, fun j u hj => (cell_same h2).trans (hx j u hj)⟩
  · obtain ⟨b2, off2, hA, hb, _⟩ := hr hn
    subst hA
    rw [hv] at hv'
    injection hv' with e1 e2 e3
    injection e1 with e1
    injection e1 with e1 e4
    subst e1
    exact ((hq.un b2 ⟨hb, hu b2 off2 n c hv hn⟩).1).2
/-- What was there before the region reads so in it. -/
theorem Rdu.old {X : World × Gh} {w : World} {m n : Nat} {v : Value} {xs : List Value} (h : Rd w m v n xs) (hk : Qok V w.heap.size X) (hS : Since w X.1) : Rdu X m v n xs := by
  refine ⟨h.below hS, fun b off k c hv hn => ?_⟩
  obtain ⟨_, A, c', hv', _, _, _, hr⟩ := h
  obtain ⟨b2, off2, hA, hb, _⟩ := hr hn
  rw [hv', hA] at hv
  injection hv with e1 _ _
  injection e1 with e1
  injection e1 with e1 _
  subst e1
  cases hq : X.2 b2 with
  | none => rfl
  | some i =>
    have := (hk.at_ b2 i hq).1
    omega
/-- What a call of the region made reads so in it. -/
theorem Rdu.new {X : World × Gh} {Y : World} {m n : Nat} {v : Value} {xs : List Value} (h : Rd Y m v n xs) (hk : Qok V B X) (hf : ∀ b off k c, v = .slice (some ⟨b, off, none⟩) k c → 0 < n → X.1.heap.size ≤ b) : Rdu (Y, X.2) m v n xs := by
  refine ⟨h, fun b off k c hv hn => ?_⟩
  have h1 := hf b off k c hv hn
  cases hq : X.2 b with
  | none => first | rfl | exact hq
  | some i =>
    have := (hk.at_ b i hq).2.1
    omega
end
/-- The walk that is left. -/
structure CertQ (P : Program) (ops : Array Oper) (V : Nat → Vq) (w : World) (Q : Act → World → Prop) (pre : Nat → Nat → Bool) (l : List (Nat × Oper × SpecG Gh)) (Fs : List (Nat × (World × Gh → Prop))) (a : Act) : Prop where
  out : CertG P ops (Gq V w.heap.size) (w, fun _ => none) (fun a X => Q a X.1) pre (fun k σ => ∀ g, σ g ≠ some k) l Fs a
section
variable {P : Program} {ops : Array Oper} {V : Nat → Vq} {w : World} {Q : Act → World → Prop} {pre : Nat → Nat → Bool} {a a' : Act} {k : Nat} {o : Oper} {l : List (Nat × Oper × SpecG Gh)} {Fs : List (Nat × (World × Gh → Prop))}
theorem Gq.ww {X : World × Gh} (h : Gq V w.heap.size (w, fun _ => none) X) : Since w X.1 := h.q.below
/-- A value with a law. -/
theorem qx {S : Value → World × Gh → Prop} (hc : ∀ (X : World) (σ : Gh), Since w X → Qok V w.heap.size (X, σ) → (∀ p F, (p, F) ∈ Fs → pre k p = true → F (X, σ)) → ∃ v X', (execOp a.eval o).run P X = .ok (.value v) X' ∧ S v (X', σ) ∧ Since X X') {b : Value → Act} (h : ∀ v, CertQ P ops V w Q pre l ((k, S v) :: Fs) (b v)) (hw : Region.wanted o (yielded ops a.tmps) = true := by rfl)
    (hp : ∀ v, a.put o.dst v = b v := by intro _; simp only [pX, st, rt, rz]; rfl) : CertQ P ops V w Q pre ((k, o, some S) :: l) Fs a := by
  refine ⟨?_⟩
  unfold CertG
  rw [if_pos hw]
  refine ⟨fun X hX _ hF => ?_, fun v => hp v ▸ (h v).out⟩
  obtain ⟨v, X', hr, h1, h2⟩ := hc X.1 X.2 hX.ww hX.r hF
  unfold runsR
  rw [hr]
  exact ⟨X.2, h1, Gq.since hX.r hX.ww.size h2, fun _ _ h => h⟩
end
end Go.Proofs.YthinopepcmidmaaDoor
namespace Go.Proofs.YthinopepcmidmaaDoor
open Go.RowKit
theorem since_alloc (X : World) (ob : Obj) : Since X (X.alloc ob) := (Below.refl X.heap.size X).alloc (Nat.le_refl _) ob
theorem size_alloc (w : World) (o : Obj) : (w.alloc o).heap.size = w.heap.size + 1 := by simp
/-- What a function lays before it begins: its parameters' boxes and its result's cells. -/
theorem start1 (w : World) (T1 : TypeId) (x1 : List Value) : ∃ W, W = w.alloc (.cells x1.toArray T1) ∧ Blk W w.heap.size T1 x1 ∧ Below w.heap.size w W := ⟨_, rfl, Blk.new rfl, since_alloc _ _⟩
theorem start2 (w : World) (T1 T2 : TypeId) (x1 x2 : List Value) : ∃ W, W = (w.alloc (.cells x1.toArray T1)).alloc (.cells x2.toArray T2) ∧ Blk W w.heap.size T1 x1 ∧ Blk W (w.heap.size + 1) T2 x2 ∧ Below w.heap.size w W := by
  obtain ⟨W1, e1, h1, b1⟩ := start1 w T1 x1
  have hs : W1.heap.size = w.heap.size + 1 := by rw [e1]; exact size_alloc _ _
  refine ⟨W1.alloc (.cells x2.toArray T2), by rw [e1], h1.bel (since_alloc _ _), ?_, bel_next b1 (since_alloc _ _)⟩
  have h2 : Blk (W1.alloc (.cells x2.toArray T2)) W1.heap.size T2 x2 := Blk.new rfl
  rwa [hs] at h2
theorem start3 (w : World) (T1 T2 T3 : TypeId) (x1 x2 x3 : List Value) : ∃ W, W = ((w.alloc (.cells x1.toArray T1)).alloc (.cells x2.toArray T2)).alloc (.cells x3.toArray T3) ∧ Blk W w.heap.size T1 x1 ∧ Blk W (w.heap.size + 1) T2 x2 ∧ Blk W (w.heap.size + 2) T3 x3 ∧ Below w.heap.size w W := by
  obtain ⟨W1, e1, h1, h2, b1⟩ := start2 w T1 T2 x1 x2
  have hs : W1.heap.size = w.heap.size + 2 := by rw [e1, size_alloc, size_alloc]
  refine ⟨W1.alloc (.cells x3.toArray T3), by rw [e1], h1.bel (since_alloc _ _), h2.bel (since_alloc _ _), ?_, bel_next b1 (since_alloc _ _)⟩
  have h3 : Blk (W1.alloc (.cells x3.toArray T3)) W1.heap.size T3 x3 := Blk.new rfl
  rwa [hs] at h3
/-- A load of a whole struct out of a block that is known. -/
theorem exec_lda {P : Program} {f : Operand → Value} {o : Oper} (T : TypeId) (x : Operand) (ho : o.op = .load T x) (g : Nat) (hx : f x = .pointer (some ⟨g, 0, none⟩)) {d : TypeDesc} (hu : P.underlying T = some d)
    (hag : (match d with | .struct _ | .array _ _ => true | _ => false) = true) {t : TypeId} {cs : List Value} (X : World) (hB : Blk X g t cs) (hi : (P.info? T).map (·.size) = some cs.length) : (execOp f o).run P X = .ok (.value (.agg cs.toArray)) X := by
  unfold execOp
  simp only [ho, hx, Instr.loadAt, Instr.sureAddr, Sem.run_bind, Sem.run_pure, Result.andThen_ok, run_loadVar_cl T d g 0 cs hB.cl hu hag hi]
/-- A store of one cell into a block that is known. -/
theorem op_store1 {P : Program} {w : World} {ops : Array Oper} {rest : List Oper} {o : Oper} {a : Act} {Q : Exit → Act → World → Prop} (hgd : o.guard = none) (g j : Nat) (t : TypeId) (xs : List Value) (hB : Blk w g t xs) (v : Value) (hj : j < xs.length)
    (hr : ∀ (X : World) (u : Value), X.cell? ⟨g, j, none⟩ = some u → X.frozen? ⟨g, j, none⟩ = false → (execOp a.eval o).run P X = .ok .skip (X.setCell ⟨g, j, none⟩ v))
    (h : ∀ w', Blk w' g t (xs.set j v) → (∀ g' t' zs, g' ≠ g → Blk w g' t' zs → Blk w' g' t' zs) → (∀ B W, Below B W w → B ≤ g → Below B W w') → wpList P ops Q rest (a.put o.dst undef) w') : wpList P ops Q (o :: rest) a w := by
  refine wpList_plain hgd fun K hK => ?_
  unfold Oper.wp
  rw [hr w _ (hB.cell (List.getElem?_eq_getElem hj)) (hB.free j)]
  exact hK _ _ (h _ (hB.set j v) (fun g' t' zs hne hz => hz.other _ _ hne) (fun B W hb hg => hb.setCell hg _))
/-- A result that lies in a cell and one in a slot. -/
theorem post_cell2 {P : Program} {fn : Func} {R : Ending → World → Prop} {a : Act} {w : World} {s g t' : Nat} {T t : TypeId} {cs : List Value} {d : TypeDesc} {v : Value} (hres : fn.results = #[.cell s T, .tmp t']) (hd : a.defers = []) (hp : a.tmps.getD s undef = .pointer (some ⟨g, 0, none⟩)) (hv : a.tmps.getD t' undef = v) (hu : P.underlying T = some d)
    (hag : (match d with | .struct _ | .array _ _ => true | _ => false) = true) (hB : Blk w g t cs) (hi : (P.info? T).map (·.size) = some cs.length) (hR : R (.returned (.tuple #[.agg cs.toArray, v])) w) : bodyPost P fn R .ret a w := by
  refine bodyPost_ret (v := .tuple #[.agg cs.toArray, v]) ?_ hd hR
  have hld := run_loadVar_cl (P := P) T d g 0 cs hB.cl hu hag hi
  have hp2 : a.tmps[s]?.getD undef = .pointer (some ⟨g, 0, none⟩) := by rw [← Array.getD_eq_getD_getElem?]; exact hp
  have hv2 : a.tmps[t']?.getD undef = v := by rw [← Array.getD_eq_getD_getElem?]; exact hv
  simp [results, hres, asAddr, hld, hp2, hv2]
/-- A method's value. -/
theorem exec_mkf {P : Program} {f : Operand → Value} {o : Oper} (F0 : FuncId) (x : Operand) (ho : o.op = .makeFunc (.func F0) #[x] #[]) (r : Value) (hx : f x = r) (X : World) : (execOp f o).run P X = .ok (.value (.func (.func F0) #[r] #[])) X := by
  unfold execOp
  simp only [ho, Instr.makeFunc, List.map_toArray, List.map_cons, List.map_nil, hx, Sem.run_bind, Sem.run_pure, Result.andThen_ok]
theorem exec_ldc {P : Program} {f : Operand → Value} {o : Oper} (T : TypeId) (x : Operand) (ho : o.op = .load T x) (b off : Nat) (hx : f x = .pointer (some ⟨b, off, none⟩)) {d : TypeDesc} (hu : P.underlying T = some d)
    (hag : (match d with | .struct _ | .array _ _ => true | _ => false) = true) (cs : List Value) (X : World) (hc : Cl X b off cs) (hi : (P.info? T).map (·.size) = some cs.length) : (execOp f o).run P X = .ok (.value (.agg cs.toArray)) X := by
  unfold execOp
  simp only [ho, hx, Instr.loadAt, Instr.sureAddr, Sem.run_bind, Sem.run_pure, Result.andThen_ok, run_loadVar_cl T d b off cs hc hu hag hi]
/-- A load of a struct that lies within a greater one. -/
theorem exec_inr {P : Program} {f : Operand → Value} {o : Oper} (T : TypeId) (x : Operand) (ho : o.op = .load T x) (g k : Nat) (xs : List Value) (hx : f x = .pointer (some ⟨g, k, none⟩)) {d : TypeDesc} (hu : P.underlying T = some d)
    (hag : (match d with | .struct _ | .array _ _ => true | _ => false) = true) {t : TypeId} {cs : List Value} (X : World) (hB : Blk X g t cs) (hs : (cs.drop k).take xs.length = xs) (hi : (P.info? T).map (·.size) = some xs.length) : (execOp f o).run P X = .ok (.value (.agg xs.toArray)) X := by
  have hc : Cl X g k xs := fun j u hj => by
    refine hB.cell ?_
    have hl : j < xs.length := (List.getElem?_eq_some_iff.1 hj).1
    rw [← hs, List.getElem?_take_of_lt hl, List.getElem?_drop] at hj
    exact hj
  unfold execOp
  simp only [ho, hx, Instr.loadAt, Instr.sureAddr, Sem.run_bind, Sem.run_pure, Result.andThen_ok, run_loadVar_cl T d g k xs hc hu hag hi]
theorem op_store_part {P : Program} {w : World} {ops : Array Oper} {rest : List Oper} {o : Oper} {a : Act} {Q : Exit → Act → World → Prop} (hgd : o.guard = none) (ty : TypeId) (p x : Operand) (ho : o.op = .store ty p x) (g j : Nat) (t : TypeId) (xs : List Value) (hB : Blk w g t xs)
    (hp : a.eval p = .pointer (some ⟨g, j, none⟩)) (ys : List Value) (hx : a.eval x = .agg ys.toArray) (hl : j + ys.length ≤ xs.length) (h1 : ∀ v ∈ ys, v.oneCell' = true) (hi : (P.info? ty).map (·.size) = some ys.length)
    (h : ∀ w', Blk w' g t (xs.take j ++ ys ++ xs.drop (j + ys.length)) → (∀ g' t' zs, g' ≠ g → Blk w g' t' zs → Blk w' g' t' zs) → (∀ B W, Below B W w → B ≤ g → Below B W w') → wpList P ops Q rest (a.put o.dst undef) w') :
    wpList P ops Q (o :: rest) a w := by
  refine wpList_plain hgd fun K hK => ?_
  have hst := run_storeCells_at P g j t ys 0 xs.toArray w hB (by simpa using hl) h1
  simp only [Nat.add_zero] at hst
  have hr : (storeVar ty ⟨g, j, none⟩ (.agg ys.toArray)).run P w = .ok () (w.setRow g (xs.take j ++ ys ++ xs.drop (j + ys.length)).toArray) := by
    cases hq : P.info? ty with
    | none => simp [hq] at hi
    | some i =>
      have hsz : i.size = ys.length := by simpa [hq] using hi
      simp [storeVar, Value.cells, Sem.run_bind, sizeOf, typeInfo, hq, hsz]
      simpa using hst
  have h2 := setRow_heap w g xs.toArray (xs.take j ++ ys ++ xs.drop (j + ys.length)).toArray t (0, 0) hB
  have h3 := setRow_grown w g (xs.take j ++ ys ++ xs.drop (j + ys.length)).toArray
  unfold Oper.wp execOp
  simp only [ho, hp, hx, Instr.storeAt, Instr.sureAddr, Sem.run_bind, Sem.run_pure, Result.andThen_ok, hr]
  exact hK _ _ (h _ h2 (fun g' t' zs hne hz => (grown_block h3 hz.lt hne).trans hz) (fun B W hb hg => hb.grown h3 (by have := hB.lt; omega) (fun k hk => by simp at hk; omega)))
theorem Cl.part {w : World} {b off : Nat} {cs : List Value} (h : Cl w b off cs) (d : Nat) (xs : List Value) (hs : (cs.drop d).take xs.length = xs) : Cl w b (off + d) xs := fun j u hj => by
  have hl : j < xs.length := (List.getElem?_eq_some_iff.1 hj).1
  rw [← hs, List.getElem?_take_of_lt hl, List.getElem?_drop] at hj
  rw [Nat.add_assoc]
  exact h (d + j) u hj
theorem exec_sti {f : Operand → Value} {o : Oper} (x y : Operand) (ho : o.op = .store 3 x y) (g j : Nat) {n : Int} (hx : f x = .pointer (some ⟨g, j, none⟩)) (hy : f y = .int .i64 n) (u : Value) (X : World) (hc : X.cell? ⟨g, j, none⟩ = some u) (hf : X.frozen? ⟨g, j, none⟩ = false) :
    (execOp f o).run Tryd.prog X = .ok .skip (X.setCell ⟨g, j, none⟩ (.int .i64 n)) := by
  unfold execOp
  simp only [ho, hx, hy]
  go_simp
end Go.Proofs.YthinopepcmidmaaDoor
