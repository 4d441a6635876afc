/-
  Drawn regions, one walk in the order of the text, where operations may hand back values that depend on the world (new blocks): each such operation has a law of its value that lasts.
-/
import Derived.Deep.Quiet
import Derived.WalkKit
set_option linter.unusedSimpArgs false
set_option linter.unusedVariables false
namespace Go.Proofs.YtmmomcililideaaDoor
open Go

/-- What is known of an operation's value: nothing but that it is one and the same (none), or a law. -/
abbrev Spec := Option (Value → World → Prop)

/-- The operation comes to a value and a world of which T holds. -/
def runsR (P : Program) (o : Oper) (a : Act) (X : World) (T : Value → World → Prop) : Prop :=
  match (execOp a.eval o).run P X with
  | .ok (.value u) w' => T u w'
  | .ok .skip w' => T undef w'
  | .ok (.enter f args) w' => Calls P f args w' (fun e w'' => ∃ v, e = .returned v ∧ T v w'')
  | _ => False

/-- The operation hands back v. -/
def quietR (P : Program) (o : Oper) (a : Act) (R : World → World → Prop) (X : World) (v : Value) : Prop :=
  match (execOp a.eval o).run P X with
  | .ok (.value u) w' => w' = X ∧ u = v
  | .ok .skip w' => w' = X ∧ v = undef
  | .ok (.enter f args) w' => w' = X ∧ P.inits.idxOf? f = none ∧ Calls P f args X (fun e w'' => e = .returned v ∧ R X w'')
  | _ => False

theorem runN_more {P : Program} {n k : Nat} {m : Machine} {o : Outcome} {w : World} (h : runN P n m = .ended o w) : runN P (n + k) m = .ended o w := by
  rw [runN_add, h]

theorem calls_det {P : Program} {f : FuncId} {args : Array Value} {w : World} {v v' : Value} {R R' : World → Prop} (hi : P.inits.idxOf? f = none)
    (h : Calls P f args w fun e w' => e = .returned v ∧ R w') (h' : Calls P f args w fun e w' => e = .returned v' ∧ R' w') : v = v' := by
  obtain ⟨n, u, w1, h1, h2⟩ := Calls.done (R := fun u _ => u = v) (h.mono fun e w' he => by obtain ⟨rfl, _⟩ := he; rfl) hi
  obtain ⟨m, u', w2, h3, h4⟩ := Calls.done (R := fun u _ => u = v') (h'.mono fun e w' he => by obtain ⟨rfl, _⟩ := he; rfl) hi
  subst h2 h4
  have e1 := runN_more (k := m) h1
  have e2 := runN_more (k := n) h3
  rw [Nat.add_comm] at e2
  rw [e1] at e2
  injection e2 with e3 _
  injection e3

theorem quietR_det {P : Program} {o : Oper} {a : Act} {R : World → World → Prop} {X : World} {v v' : Value} (h : quietR P o a R X v) (h' : quietR P o a R X v') : v = v' := by
  unfold quietR at *
  generalize (execOp a.eval o).run P X = r at *
  cases r with
  | ok n w' =>
    cases n <;> simp only at h h'
    case value u => exact h.2.symm.trans h'.2
    case skip => exact h.2.trans h'.2.symm
    case enter f args => exact calls_det h.2.1 h.2.2 h'.2.2
  | halt x w' => exact h.elim

/-- The walk in the order of the text. 'pre k p': operation k comes behind operation p in every order. -/
def Cert (P : Program) (ops : Array Oper) (R : World → World → Prop) (w0 : World) (Q : Act → World → Prop) (pre : Nat → Nat → Bool) :
    List (Nat × Oper × Spec) → List (Nat × (World → Prop)) → Act → Prop
  | [], Fs, a => ∀ X, R w0 X → (∀ p F, (p, F) ∈ Fs → F X) → Q a X
  | (k, o, s) :: l, Fs, a =>
    if Region.wanted o (yielded ops a.tmps) = true then
      match s with
      | none => ∃ v, (∀ X, R w0 X → (∀ p F, (p, F) ∈ Fs → pre k p = true → F X) → quietR P o a R X v) ∧ Cert P ops R w0 Q pre l Fs (a.put o.dst v)
      | some S => (∀ X, R w0 X → (∀ p F, (p, F) ∈ Fs → pre k p = true → F X) → runsR P o a X (fun u X' => S u X' ∧ R X X')) ∧
          ∀ v, Cert P ops R w0 Q pre l ((k, S v) :: Fs) (a.put o.dst v)
    else Cert P ops R w0 Q pre l Fs (a.put o.dst undef)

section
variable {P : Program} {ops : Array Oper} {R : World → World → Prop} {w0 : World} {Q : Act → World → Prop} {pre : Nat → Nat → Bool}

theorem Cert.more : ∀ (l : List (Nat × Oper × Spec)) (Fs Gs : List (Nat × (World → Prop))) (a : Act), (∀ x, x ∈ Fs → x ∈ Gs) → Cert P ops R w0 Q pre l Fs a → Cert P ops R w0 Q pre l Gs a
  | [], Fs, Gs, a, hs, h => fun X hX hG => h X hX fun p F hp => hG p F (hs _ hp)
  | (k, o, s) :: l, Fs, Gs, a, hs, h => by
    unfold Cert at h ⊢
    split
    · rename_i hw
      rw [if_pos hw] at h
      cases s with
      | none =>
        obtain ⟨v, h1, h2⟩ := h
        exact ⟨v, fun X hX hG => h1 X hX fun p F hp => hG p F (hs _ hp), Cert.more l _ _ _ hs h2⟩
      | some S =>
        obtain ⟨h1, h2⟩ := h
        refine ⟨fun X hX hG => h1 X hX fun p F hp => hG p F (hs _ hp), fun v => Cert.more l _ _ _ ?_ (h2 v)⟩
        intro x hx
        rcases List.mem_cons.1 hx with rfl | hx
        · exact List.mem_cons_self
        · exact List.mem_cons_of_mem _ (hs _ hx)
    · rename_i hw
      rw [if_neg hw] at h
      exact Cert.more l _ _ _ hs h

/-- What pulling an operation to the front leaves. -/
def Pulled (P : Program) (ops : Array Oper) (R : World → World → Prop) (w0 : World) (Q : Act → World → Prop) (pre : Nat → Nat → Bool) (X : World) (j : Nat) (oj : Oper) (sj : Spec)
    (l : List (Nat × Oper × Spec)) (Fs : List (Nat × (World → Prop))) (a : Act) : Prop :=
  if Region.wanted oj (yielded ops a.tmps) = true then
    match sj with
    | none => ∃ v, quietR P oj a R X v ∧ Cert P ops R w0 Q pre l Fs (a.put oj.dst v)
    | some S => runsR P oj a X (fun u X' => S u X' ∧ R X X') ∧ ∀ v, Cert P ops R w0 Q pre l ((j, S v) :: Fs) (a.put oj.dst v)
  else Cert P ops R w0 Q pre l Fs (a.put oj.dst undef)

theorem quietR_put {o : Oper} {a : Act} {X : World} {v u : Value} {dst : Option Tmp} (hs : ∀ cs b, o.op ≠ .select cs b) (h : ∀ d, dst = some d → d ∉ o.looksAt ops) :
    quietR P o (a.put dst u) R X v = quietR P o a R X v := by
  unfold quietR
  rw [execOp_put (ops := ops) o hs a dst u h]
theorem runsR_put {o : Oper} {a : Act} {X : World} {T : Value → World → Prop} {u : Value} {dst : Option Tmp} (hs : ∀ cs b, o.op ≠ .select cs b) (h : ∀ d, dst = some d → d ∉ o.looksAt ops) :
    runsR P o (a.put dst u) X T = runsR P o a X T := by
  unfold runsR
  rw [execOp_put (ops := ops) o hs a dst u h]

theorem Cert.pull {X : World} {j : Nat} {oj : Oper} {sj : Spec} (hsj : ∀ cs b, oj.op ≠ .select cs b) (hX : R w0 X) (l2 : List (Nat × Oper × Spec)) :
    ∀ (l1 : List (Nat × Oper × Spec)) (Fs : List (Nat × (World → Prop))) (a : Act),
      (∀ it ∈ l1, it.2.1.apart ops oj = true ∧ pre j it.1 = false ∧ ∀ cs b, it.2.1.op ≠ .select cs b) →
      (∀ p F, (p, F) ∈ Fs → pre j p = true → F X) →
      Cert P ops R w0 Q pre (l1 ++ (j, oj, sj) :: l2) Fs a → Pulled P ops R w0 Q pre X j oj sj (l1 ++ l2) Fs a
  | [], Fs, a, _, hF, h => by
    unfold Pulled
    simp only [List.nil_append] at h ⊢
    unfold Cert at h
    split
    · rename_i hw
      rw [if_pos hw] at h
      cases sj with
      | none => obtain ⟨v, h1, h2⟩ := h; exact ⟨v, h1 X hX hF, h2⟩
      | some S => obtain ⟨h1, h2⟩ := h; exact ⟨h1 X hX hF, h2⟩
    · rename_i hw
      rw [if_neg hw] at h
      exact h
  | (i, oi, si) :: l1, Fs, a, hl, hF, h => by
    obtain ⟨hap, hpre, hsi⟩ := hl _ List.mem_cons_self
    obtain ⟨h1, h2, h3⟩ := Oper.apart_spec hap
    simp only at h1 h2 h3 hpre hsi
    have hl' := fun it hit => hl it (List.mem_cons_of_mem _ hit)
    have comm : ∀ u v, (a.put oi.dst u).put oj.dst v = (a.put oj.dst v).put oi.dst u := fun u v => Act.put_comm a u v h2
    have wj : ∀ u, Region.wanted oj (yielded ops (a.put oi.dst u).tmps) = Region.wanted oj (yielded ops a.tmps) := fun u => wanted_put oj a oi.dst u h1
    have wi : ∀ v, Region.wanted oi (yielded ops (a.put oj.dst v).tmps) = Region.wanted oi (yielded ops a.tmps) := fun v => wanted_put oi a oj.dst v h3
    rw [List.cons_append] at h
    unfold Cert at h
    by_cases hwi : Region.wanted oi (yielded ops a.tmps) = true
    · rw [if_pos hwi] at h
      cases si with
      | none =>
        obtain ⟨vi, ho, hc⟩ := h
        have hp := Cert.pull hsj hX l2 l1 Fs _ hl' hF hc
        unfold Pulled at hp ⊢
        rw [wj] at hp
        split
        · rename_i hwj
          rw [if_pos hwj] at hp
          cases sj with
          | none =>
            obtain ⟨v, hq, hk⟩ := hp
            refine ⟨v, by rwa [quietR_put hsj h1] at hq, ?_⟩
            rw [comm] at hk
            rw [List.cons_append]
            unfold Cert
            rw [wi, if_pos hwi]
            exact ⟨vi, fun Y hY hG => by rw [quietR_put hsi h3]; exact ho Y hY hG, hk⟩
          | some S =>
            obtain ⟨hq, hk⟩ := hp
            refine ⟨by rwa [runsR_put hsj h1] at hq, fun v => ?_⟩
            have hk := hk v
            rw [comm] at hk
            rw [List.cons_append]
            unfold Cert
            rw [wi, if_pos hwi]
            exact ⟨vi, fun Y hY hG => by rw [quietR_put hsi h3]; exact ho Y hY fun p F hp => hG p F (List.mem_cons_of_mem _ hp), hk⟩
        · rename_i hwj
          rw [if_neg hwj, comm] at hp
          rw [List.cons_append]
          unfold Cert
          rw [wi, if_pos hwi]
          exact ⟨vi, fun Y hY hG => by rw [quietR_put hsi h3]; exact ho Y hY hG, hp⟩
      | some Si =>
        obtain ⟨ho, hc⟩ := h
        have hp : ∀ vi, Pulled P ops R w0 Q pre X j oj sj (l1 ++ l2) ((i, Si vi) :: Fs) (a.put oi.dst vi) := fun vi => Cert.pull hsj hX l2 l1 _ _ hl' (by
          intro p F hm hpj
          rcases List.mem_cons.1 hm with heq | hm
          · injection heq with e1 _
            rw [e1, hpre] at hpj
            cases hpj
          · exact hF p F hm hpj) (hc vi)
        unfold Pulled at hp ⊢
        simp only [wj] at hp
        split
        · rename_i hwj
          simp only [if_pos hwj] at hp
          cases sj with
          | none =>
            simp only [quietR_put hsj h1] at hp
            obtain ⟨v, hq, _⟩ := hp undef
            refine ⟨v, hq, ?_⟩
            rw [List.cons_append]
            unfold Cert
            rw [wi, if_pos hwi]
            refine ⟨fun Y hY hG => by rw [runsR_put hsi h3]; exact ho Y hY hG, fun vi => ?_⟩
            obtain ⟨v', hq', hk⟩ := hp vi
            obtain rfl := quietR_det hq hq'
            rw [comm] at hk
            exact hk
          | some S =>
            simp only [runsR_put hsj h1] at hp
            refine ⟨(hp undef).1, fun v => ?_⟩
            rw [List.cons_append]
            unfold Cert
            rw [wi, if_pos hwi]
            refine ⟨fun Y hY hG => by rw [runsR_put hsi h3]; exact ho Y hY fun p F hp => hG p F (List.mem_cons_of_mem _ hp), fun vi => ?_⟩
            have hk := (hp vi).2 v
            rw [comm] at hk
            refine Cert.more _ _ _ _ ?_ hk
            intro x hx
            simp only [List.mem_cons] at hx ⊢
            rcases hx with h | h | h
            · exact .inr (.inl h)
            · exact .inl h
            · exact .inr (.inr h)
        · rename_i hwj
          simp only [if_neg hwj] at hp
          rw [List.cons_append]
          unfold Cert
          rw [wi, if_pos hwi]
          refine ⟨fun Y hY hG => by rw [runsR_put hsi h3]; exact ho Y hY hG, fun vi => ?_⟩
          have hk := hp vi
          rw [comm] at hk
          exact hk
    · rw [if_neg hwi] at h
      have hp := Cert.pull hsj hX l2 l1 Fs _ hl' hF h
      unfold Pulled at hp ⊢
      rw [wj] at hp
      split
      · rename_i hwj
        rw [if_pos hwj] at hp
        cases sj with
        | none =>
          obtain ⟨v, hq, hk⟩ := hp
          refine ⟨v, by rwa [quietR_put hsj h1] at hq, ?_⟩
          rw [comm] at hk
          rw [List.cons_append]
          unfold Cert
          rw [wi, if_neg hwi]
          exact hk
        | some S =>
          obtain ⟨hq, hk⟩ := hp
          refine ⟨by rwa [runsR_put hsj h1] at hq, fun v => ?_⟩
          have hk := hk v
          rw [comm] at hk
          rw [List.cons_append]
          unfold Cert
          rw [wi, if_neg hwi]
          exact hk
      · rename_i hwj
        rw [if_neg hwj, comm] at hp
        rw [List.cons_append]
        unfold Cert
        rw [wi, if_neg hwi]
        exact hp
end

/-! ### The Bool over a region -/

/-- For each operation those that come before it in every order. -/
def clo (ops : List Oper) : List (List Nat) :=
  ops.foldl (fun acc o => acc ++ [(o.after.toList.filter (Region.binds .any)).foldl (fun s e => (e.on :: acc.getD e.on []).foldl (fun s x => if s.contains x then s else x :: s) s) []]) []
def inB (B : List (List Nat)) (k p : Nat) : Bool := (B.getD k []).contains p
def lxB (l : List Oper) : Bool :=
  let B := clo l
  Region.noSelect l.toArray && l.zipIdx.all fun (o, k) =>
    (o.after.toList.all fun e => !Region.binds .any e || decide (e.on < k)) &&
    ((B.getD k []).all fun p => decide (p < k) && o.after.toList.any fun e => Region.binds .any e && (e.on == p || inB B e.on p)) &&
    (l.take k).zipIdx.all fun (o', i) => inB B k i || o'.apart l.toArray o

theorem lxB_spec {l : List Oper} (h : lxB l = true) : Region.noSelect l.toArray = true ∧ ∀ k o, l[k]? = some o →
    (∀ e ∈ o.after, Region.binds .any e = true → e.on < k) ∧
    (∀ p, inB (clo l) k p = true → p < k ∧ ∃ e ∈ o.after, Region.binds .any e = true ∧ (e.on = p ∨ inB (clo l) e.on p = true)) ∧
    ∀ i o', i < k → l[i]? = some o' → inB (clo l) k i = true ∨ o'.apart l.toArray o = true := by
  unfold lxB at h
  simp only [Bool.and_eq_true, List.all_eq_true] at h
  refine ⟨h.1, fun k o ho => ?_⟩
  have hm : (o, k) ∈ l.zipIdx := by
    rw [List.mem_zipIdx_iff_getElem?]
    exact ho
  obtain ⟨⟨h1, h2⟩, h3⟩ := h.2 _ hm
  simp only at h1 h2 h3
  refine ⟨fun e he hb => ?_, fun p hp => ?_, fun i o' hi ho' => ?_⟩
  · have := h1 e (Array.mem_toList_iff.2 he)
    simpa [hb] using this
  · unfold inB at hp
    have := h2 p (by simpa using hp)
    obtain ⟨h4, h5⟩ := this
    refine ⟨of_decide_eq_true h4, ?_⟩
    obtain ⟨e, he, h6⟩ := List.any_eq_true.1 h5
    simp only [Bool.and_eq_true, Bool.or_eq_true, beq_iff_eq] at h6
    exact ⟨e, Array.mem_toList_iff.1 he, h6.1, h6.2⟩
  · have hm' : (o', i) ∈ (l.take k).zipIdx := by
      rw [List.mem_zipIdx_iff_getElem?, List.getElem?_take_of_lt hi]
      exact ho'
    have := h3 _ hm'
    simpa using this

section
variable {P : Program} {l : List Oper} {R : World → World → Prop} {w0 : World} {Q : Act → World → Prop}

/-- The operations that have not come up yet, the last T ones apart. -/
def Left (T : Nat) (l : List Oper) (listed : Array Bool) (items : List (Nat × Oper × Spec)) : Prop :=
  items.Pairwise (fun x y => x.1 < y.1) ∧ (∀ it ∈ items, l[it.1]? = some it.2.1 ∧ listed.getD it.1 true = false ∧ it.1 < l.length - T) ∧
    (∀ k o, k < l.length - T → l[k]? = some o → listed.getD k true = false → ∃ s, (k, o, s) ∈ items) ∧ ∀ k, l.length - T ≤ k → k < l.length → listed.getD k true = false

theorem cert_any {T : Nat} (hB : lxB l = true) (htr : ∀ X Y, R w0 X → R X Y → R w0 Y) {Q' : Exit → Act → World → Prop}
    (htail : ∀ t, l.length - T ≤ t → t < l.length → ∀ p, p < l.length - T → inB (clo l) t p = true)
    (hQ : ∀ listed a w, listed.size = l.length → (∀ k, k < l.length - T → listed.getD k true = true) → (∀ k, l.length - T ≤ k → k < l.length → listed.getD k true = false) → Q a w → wpAny P .any l.toArray Q' T listed a w) :
    ∀ (fuel : Nat) (listed : Array Bool) (items : List (Nat × Oper × Spec)) (Fs : List (Nat × (World → Prop))) (a : Act) (X : World), items.length = fuel → Left T l listed items → listed.size = l.length →
      (∀ k o, l[k]? = some o → listed.getD k true = true → ∀ e ∈ o.after, Region.binds .any e = true → listed.getD e.on true = true) →
      (∀ it ∈ items, ∀ S, it.2.2 = some S → ∀ v X Y, S v X → R X Y → S v Y) → (∀ p F, (p, F) ∈ Fs → F X ∧ ∀ X Y, F X → R X Y → F Y) → R w0 X →
      Cert P l.toArray R w0 Q (inB (clo l)) items Fs a → wpAny P .any l.toArray Q' (fuel + T) listed a X
  | 0, listed, items, Fs, a, X, hlen, hleft, hsz, hcl, hst, hF, hX, h => by
    have : items = [] := List.eq_nil_of_length_eq_zero hlen
    subst this
    rw [Nat.zero_add]
    refine hQ listed _ _ hsz (fun k hk => ?_) hleft.2.2.2 (h X hX fun p F hp => (hF p F hp).1)
    cases hq : listed.getD k true with
    | true => rfl
    | false =>
      obtain ⟨s, hs⟩ := hleft.2.2.1 k (l[k]'(by omega)) hk (List.getElem?_eq_getElem (by omega)) hq
      cases hs
  | fuel + 1, listed, items, Fs, a, X, hlen, hleft, hsz, hcl, hst, hF, hX, h => by
    obtain ⟨hns, hspec⟩ := lxB_spec hB
    rw [show fuel + 1 + T = (fuel + T) + 1 by omega]
    have getD_ft : ∀ k, k < l.length → listed.getD k true = listed.getD k false := fun k hk => by
      simp only [Array.getD_eq_getD_getElem?, Array.getElem?_eq_getElem (hsz ▸ hk), Option.getD_some]
    refine ⟨fun hnil => ?_, fun j hj => ?_⟩
    · exfalso
      obtain ⟨⟨k, o, s⟩, rest, rfl⟩ : ∃ x r, items = x :: r := by
        cases items with
        | nil => cases hlen
        | cons x r => exact ⟨x, r, rfl⟩
      obtain ⟨hk, hun, hkT⟩ := hleft.2.1 _ List.mem_cons_self
      have hr : k ∈ Region.ready .any l.toArray listed := mem_ready.2 ⟨hun, o, by simpa using hk, fun e he hb => by
        have hlt := (hspec k o hk).1 e he hb
        have hkl : k < l.length := (List.getElem?_eq_some_iff.1 hk).1
        rw [← getD_ft _ (by omega)]
        cases hq : listed.getD e.on true with
        | true => rfl
        | false =>
          obtain ⟨s', hs'⟩ := hleft.2.2.1 e.on (l[e.on]'(by omega)) (by simp only at hkT; omega) (List.getElem?_eq_getElem (by omega)) hq
          rcases List.mem_cons.1 hs' with heq | hm
          · injection heq with e1 _
            omega
          · have := (List.pairwise_cons.1 hleft.1).1 _ hm
            simp only at this
            omega⟩
      rw [hnil] at hr
      cases hr
    · obtain ⟨h0, o, ho, hall⟩ := mem_ready.1 hj
      have ho' : l[j]? = some o := by simpa using ho
      have hjl : j < l.length := (List.getElem?_eq_some_iff.1 ho').1
      -- what comes before j in every order is listed
      have closed : ∀ n k p, k ≤ n → k < l.length → (listed.getD k true = true ∨ k = j) → inB (clo l) k p = true → listed.getD p true = true := by
        intro n
        induction n with
        | zero =>
          intro k p hk hkl hor hin
          obtain ⟨hlt, _⟩ := (hspec k (l[k]'hkl) (List.getElem?_eq_getElem hkl)).2.1 p hin
          omega
        | succ n ih =>
          intro k p hk hkl hor hin
          obtain ⟨hlt, e, he, hb, hor2⟩ := (hspec k (l[k]'hkl) (List.getElem?_eq_getElem hkl)).2.1 p hin
          have hek := (hspec k (l[k]'hkl) (List.getElem?_eq_getElem hkl)).1 e he hb
          have hel : listed.getD e.on true = true := by
            rcases hor with hor | rfl
            · exact hcl k _ (List.getElem?_eq_getElem hkl) hor e he hb
            · have : o = l[k]'hkl := by
                have := List.getElem?_eq_getElem hkl
                rw [ho'] at this
                injection this
              rw [getD_ft _ (by omega)]
              exact hall e (this ▸ he) hb
          rcases hor2 with rfl | hin2
          · exact hel
          · exact ih e.on p (by omega) (by omega) (.inl hel) hin2
      have hjT : j < l.length - T := by
        rcases Nat.lt_or_ge j (l.length - T) with h' | h'
        · exact h'
        · exfalso
          obtain ⟨⟨k, ok, s⟩, rest, rfl⟩ : ∃ x r, items = x :: r := by
            cases items with
            | nil => cases hlen
            | cons x r => exact ⟨x, r, rfl⟩
          obtain ⟨_, hun, hkT⟩ := hleft.2.1 _ List.mem_cons_self
          have := closed j j k (Nat.le_refl _) hjl (.inr rfl) (htail j h' hjl k hkT)
          simp only at hun
          rw [hun] at this
          cases this
      obtain ⟨s, hs⟩ := hleft.2.2.1 j o hjT ho' h0
      obtain ⟨l1, l2, rfl⟩ := List.append_of_mem hs
      have hpw := List.pairwise_append.1 hleft.1
      have hl1 : ∀ it ∈ l1, it.2.1.apart l.toArray o = true ∧ inB (clo l) j it.1 = false ∧ ∀ cs b, it.2.1.op ≠ .select cs b := fun it hit => by
        obtain ⟨hit1, hit2, _⟩ := hleft.2.1 it (List.mem_append_left _ hit)
        have hlt : it.1 < j := hpw.2.2 it hit _ List.mem_cons_self
        have hno : inB (clo l) j it.1 = false := by
          cases hq : inB (clo l) j it.1 with
          | false => rfl
          | true =>
            have := closed j j it.1 (Nat.le_refl _) hjl (.inr rfl) hq
            rw [hit2] at this
            cases this
        refine ⟨?_, hno, fun cs b => Region.noSelect_spec hns it.1 it.2.1 cs b (by simpa using hit1)⟩
        rcases (hspec j o ho').2.2 it.1 it.2.1 hlt hit1 with h' | h'
        · rw [hno] at h'
          cases h'
        · exact h'
      have hp := Cert.pull (X := X) (fun cs b => Region.noSelect_spec hns j o cs b ho) hX l2 l1 Fs a hl1 (fun p F hm _ => (hF p F hm).1) h
      -- what is left behind j
      have hleft' : Left T l (listed.setIfInBounds j true) (l1 ++ l2) := by
        refine ⟨hleft.1.sublist (by simp), fun it hit => ?_, fun k ok hkT hk hun => ?_, fun k hk1 hk2 => by rw [getD_set_ne true (by omega)]; exact hleft.2.2.2 k hk1 hk2⟩
        · obtain ⟨h1, h2, h2T⟩ := hleft.2.1 it (by
            rcases List.mem_append.1 hit with h | h
            · exact List.mem_append_left _ h
            · exact List.mem_append_right _ (List.mem_cons_of_mem _ h))
          have hne : j ≠ it.1 := by
            rcases List.mem_append.1 hit with h | h
            · have := hpw.2.2 it h _ List.mem_cons_self
              simp only at this
              omega
            · have := (List.pairwise_cons.1 hpw.2.1).1 it h
              simp only at this
              omega
          exact ⟨h1, by rw [getD_set_ne true hne]; exact h2, h2T⟩
        · by_cases hjk : j = k
          · subst hjk
            have : (listed.setIfInBounds j true).getD j true = true := by simp [hsz, hjl]
            rw [this] at hun
            cases hun
          · rw [getD_set_ne true hjk] at hun
            obtain ⟨s', hs'⟩ := hleft.2.2.1 k ok hkT hk hun
            refine ⟨s', ?_⟩
            rcases List.mem_append.1 hs' with h | h
            · exact List.mem_append_left _ h
            · rcases List.mem_cons.1 h with heq | h
              · injection heq with e1 _
                exact absurd e1.symm hjk
              · exact List.mem_append_right _ h
      have hlen' : (l1 ++ l2).length = fuel := by simp at hlen ⊢; omega
      have hcl' : ∀ k o, l[k]? = some o → (listed.setIfInBounds j true).getD k true = true → ∀ e ∈ o.after, Region.binds .any e = true → (listed.setIfInBounds j true).getD e.on true = true := by
        intro k ok hk hlk e he hb
        have hkl : k < l.length := (List.getElem?_eq_some_iff.1 hk).1
        have hek := (hspec k ok hk).1 e he hb
        have : listed.getD e.on true = true := by
          by_cases hjk : j = k
          · subst hjk
            rw [hk] at ho'
            injection ho' with e1
            rw [getD_ft _ (by omega)]
            exact hall e (e1 ▸ he) hb
          · rw [getD_set_ne true hjk] at hlk
            exact hcl k ok hk hlk e he hb
        by_cases hje : j = e.on
        · subst hje
          simp [hsz, hjl]
        · rw [getD_set_ne true hje]
          exact this
      have hst' : ∀ it ∈ l1 ++ l2, ∀ S, it.2.2 = some S → ∀ v X Y, S v X → R X Y → S v Y := fun it hit => hst it (by
        rcases List.mem_append.1 hit with h | h
        · exact List.mem_append_left _ h
        · exact List.mem_append_right _ (List.mem_cons_of_mem _ h))
      have hsz' : (listed.setIfInBounds j true).size = l.length := by simpa using hsz
      have go : ∀ Gs a' X', (∀ p F, (p, F) ∈ Gs → F X' ∧ ∀ X Y, F X → R X Y → F Y) → R w0 X' → Cert P l.toArray R w0 Q (inB (clo l)) (l1 ++ l2) Gs a' → wpAny P .any l.toArray Q' (fuel + T) (listed.setIfInBounds j true) a' X' :=
        fun Gs a' X' hG hX' hc => cert_any hB htr htail hQ fuel _ _ Gs a' X' hlen' hleft' hsz' hcl' hst' hG hX' hc
      have keep : ∀ X', R X X' → ∀ p F, (p, F) ∈ Fs → F X' ∧ ∀ X Y, F X → R X Y → F Y := fun X' hXX p F hm => ⟨(hF p F hm).2 X X' (hF p F hm).1 hXX, (hF p F hm).2⟩
      unfold wpOp
      simp only [ho]
      unfold Pulled at hp
      split
      · rename_i hw
        rw [if_pos hw] at hp
        refine .inl ?_
        cases s with
        | none =>
          obtain ⟨v, hq, hc⟩ := hp
          unfold quietR at hq
          unfold Oper.wp
          generalize (execOp a.eval o).run P X = r at hq ⊢
          cases r with
          | ok n w' =>
            cases n <;> simp only [Oper.upon] at hq ⊢
            case value u => obtain ⟨rfl, rfl⟩ := hq; exact go Fs _ _ hF hX hc
            case skip => obtain ⟨rfl, rfl⟩ := hq; exact go Fs _ _ hF hX hc
            case enter f args =>
              obtain ⟨rfl, _, hcall⟩ := hq
              exact hcall.mono fun e w'' ⟨he, hR⟩ => by subst he; exact go Fs _ _ (keep _ hR) (htr _ _ hX hR) hc
          | halt x w' => exact hq.elim
        | some S =>
          obtain ⟨hq, hc⟩ := hp
          have hS := hst _ (List.mem_append_right _ List.mem_cons_self) S rfl
          have fin : ∀ v X', S v X' ∧ R X X' → wpAny P .any l.toArray Q' (fuel + T) (listed.setIfInBounds j true) (a.put o.dst v) X' := fun v X' ⟨h1, h2⟩ =>
            go ((j, S v) :: Fs) _ _ (fun p F hm => by
              rcases List.mem_cons.1 hm with heq | hm
              · injection heq with e1 e2
                subst e2
                exact ⟨h1, fun X Y => hS v X Y⟩
              · exact keep _ h2 p F hm) (htr _ _ hX h2) (hc v)
          unfold runsR at hq
          unfold Oper.wp
          generalize (execOp a.eval o).run P X = r at hq ⊢
          cases r with
          | ok n w' =>
            cases n <;> simp only [Oper.upon] at hq ⊢
            case value u => exact fin _ _ hq
            case skip => exact fin _ _ hq
            case enter f args =>
              exact hq.mono fun e w'' ⟨v, he, h2⟩ => by subst he; exact fin _ _ h2
          | halt x w' => exact hq.elim
      · rename_i hw
        rw [if_neg hw] at hp
        exact go Fs _ _ hF hX hp

/-- The operations, numbered, with their laws. -/
def its : Nat → List Oper → List Spec → List (Nat × Oper × Spec)
  | _, [], _ => []
  | k, o :: l, [] => (k, o, none) :: its (k + 1) l []
  | k, o :: l, s :: ss => (k, o, s) :: its (k + 1) l ss

theorem its_mem : ∀ (k : Nat) (l : List Oper) (ss : List Spec), (its k l ss).Pairwise (fun x y => x.1 < y.1) ∧ (∀ it ∈ its k l ss, k ≤ it.1 ∧ l[it.1 - k]? = some it.2.1 ∧ (it.2.2 = none ∨ it.2.2 ∈ ss)) ∧ (its k l ss).length = l.length ∧ ∀ j o, l[j]? = some o → ∃ s, (k + j, o, s) ∈ its k l ss
  | k, [], ss => by unfold its; exact ⟨List.Pairwise.nil, fun it h => (by cases h), rfl, fun j o h => by cases h⟩
  | k, o :: l, [] => by
    obtain ⟨h1, h2, h3, h4⟩ := its_mem (k + 1) l []
    unfold its
    refine ⟨List.pairwise_cons.2 ⟨fun it hit => ?_, h1⟩, fun it hit => ?_, by simp [h3], fun j o' hj => ?_⟩
    · have := (h2 it hit).1
      show k < it.1
      omega
    · rcases List.mem_cons.1 hit with rfl | hit
      · exact ⟨Nat.le_refl _, by simp, .inl rfl⟩
      · obtain ⟨a1, a2, a3⟩ := h2 it hit
        refine ⟨by omega, ?_, a3⟩
        rw [show it.1 - k = (it.1 - (k + 1)) + 1 by omega, List.getElem?_cons_succ]
        exact a2
    · cases j with
      | zero =>
        simp only [List.getElem?_cons_zero, Option.some.injEq] at hj
        subst hj
        exact ⟨none, List.mem_cons_self⟩
      | succ j =>
        obtain ⟨s, hs⟩ := h4 j o' (by simpa using hj)
        exact ⟨s, List.mem_cons_of_mem _ (by rw [show k + (j + 1) = k + 1 + j by omega]; exact hs)⟩
  | k, o :: l, s :: ss => by
    obtain ⟨h1, h2, h3, h4⟩ := its_mem (k + 1) l ss
    unfold its
    refine ⟨List.pairwise_cons.2 ⟨fun it hit => ?_, h1⟩, fun it hit => ?_, by simp [h3], fun j o' hj => ?_⟩
    · have := (h2 it hit).1
      show k < it.1
      omega
    · rcases List.mem_cons.1 hit with rfl | hit
      · exact ⟨Nat.le_refl _, by simp, .inr List.mem_cons_self⟩
      · obtain ⟨a1, a2, a3⟩ := h2 it hit
        refine ⟨by omega, ?_, a3.imp id (List.mem_cons_of_mem _)⟩
        rw [show it.1 - k = (it.1 - (k + 1)) + 1 by omega, List.getElem?_cons_succ]
        exact a2
    · cases j with
      | zero =>
        simp only [List.getElem?_cons_zero, Option.some.injEq] at hj
        subst hj
        exact ⟨s, List.mem_cons_self⟩
      | succ j =>
        obtain ⟨s', hs⟩ := h4 j o' (by simpa using hj)
        exact ⟨s', List.mem_cons_of_mem _ (by rw [show k + (j + 1) = k + 1 + j by omega]; exact hs)⟩

theorem cert_region {id : Nat} {Q' : Exit → Act → World → Prop} {a : Act} {w : World} (ss : List Spec) (hm : P.follows .mixedOrders = true) (hB : lxB l = true) (h0 : R w0 w.drew) (htr : ∀ X Y, R w0 X → R X Y → R w0 Y)
    (hst : ∀ S, some S ∈ ss → ∀ v X Y, S v X → R X Y → S v Y) (h : Cert P l.toArray R w0 (wpList P l.toArray Q' []) (inB (clo l)) (its 0 l ss) [] a) : (Code.region id l.toArray true).wp P Q' a w := by
  refine wp_region_any hm ?_
  obtain ⟨h1, h2, h3, h4⟩ := its_mem 0 l ss
  have hlen : l.toArray.size = (its 0 l ss).length + 0 := by rw [h3]; simp
  rw [hlen]
  refine cert_any (T := 0) hB htr (fun t h1 h2 => by omega) (fun listed a w hs hall _ hq => ?_) (its 0 l ss).length _ (its 0 l ss) [] a _ rfl ⟨h1, fun it hit => ?_, fun k o _ hk _ => ?_, fun k h1 h2 => by omega⟩ (by simp [h3]) ?_ ?_ (fun p F hp => (by cases hp)) h0 h
  · refine ⟨?_, hq⟩
    apply List.eq_nil_iff_forall_not_mem.2
    intro i hi
    obtain ⟨h0, o, ho, _⟩ := mem_ready.1 hi
    have hlt : i < l.length := (List.getElem?_eq_some_iff.1 (show l[i]? = some o by simpa using ho)).1
    rw [hall i (by omega)] at h0
    cases h0
  · obtain ⟨_, a2, _⟩ := h2 it hit
    have : it.1 < l.length := (List.getElem?_eq_some_iff.1 (by simpa using a2)).1
    refine ⟨by simpa using a2, ?_, by omega⟩
    simp [h3, this]
  · obtain ⟨s, hs⟩ := h4 k o hk
    exact ⟨s, by simpa using hs⟩
  · intro k o hk hl
    have : k < l.length := (List.getElem?_eq_some_iff.1 hk).1
    simp [h3, this] at hl
  · intro it hit S hS
    rcases (h2 it hit).2.2 with h' | h'
    · rw [hS] at h'
      cases h'
    · rw [hS] at h'
      exact hst S h'

def tailB (l : List Oper) : Bool := (List.range (l.length - 1)).all fun p => inB (clo l) (l.length - 1) p

/-- The same, the last operation (which waits for all others) apart. -/
theorem cert_region_tail {id : Nat} {Q' : Exit → Act → World → Prop} {a : Act} {w : World} {z : Oper} (ss : List Spec) (hm : P.follows .mixedOrders = true) (hB : lxB l = true) (hT : tailB l = true) (hz : l.drop (l.length - 1) = [z]) (h0 : R w0 w.drew) (htr : ∀ X Y, R w0 X → R X Y → R w0 Y)
    (hst : ∀ S, some S ∈ ss → ∀ v X Y, S v X → R X Y → S v Y) (h : Cert P l.toArray R w0 (wpList P l.toArray Q' [z]) (inB (clo l)) (its 0 l.dropLast ss) [] a) : (Code.region id l.toArray true).wp P Q' a w := by
  refine wp_region_any hm ?_
  obtain ⟨h1, h2, h3, h4⟩ := its_mem 0 l.dropLast ss
  have hpos : 0 < l.length := by
    cases l with
    | nil => simp at hz
    | cons x r => simp
  have hdl : ∀ k, k < l.length - 1 → l.dropLast[k]? = l[k]? := fun k hk => by
    rw [List.getElem?_dropLast, if_pos hk]
  have hlen : l.toArray.size = (its 0 l.dropLast ss).length + 1 := by rw [h3]; simp; omega
  have a60 : (its 0 l.dropLast ss).length + 1 = l.length := by rw [h3]; simp; omega
  have hzl : l[l.length - 1]? = some z := by
    have := congrArg (·[0]?) hz
    simpa [List.getElem?_drop] using this
  rw [hlen]
  refine cert_any (T := 1) hB htr (fun t h1 h2 p hp => ?_) (fun listed a w hs hall hun hq => ?_) (its 0 l.dropLast ss).length _ (its 0 l.dropLast ss) [] a _ rfl ⟨h1, fun it hit => ?_, fun k o hkT hk _ => ?_, fun k h1 h2 => by simp [a60, h2]⟩ (by simp [a60]) ?_ ?_ (fun p F hp => (by cases hp)) h0 h
  · have : t = l.length - 1 := by omega
    subst this
    unfold tailB at hT
    exact List.all_eq_true.1 hT p (List.mem_range.2 hp)
  · have getD_ft : ∀ k, k < l.length → listed.getD k true = listed.getD k false := fun k hk => by
      simp only [Array.getD_eq_getD_getElem?, Array.getElem?_eq_getElem (hs ▸ hk), Option.getD_some]
    have hzu := hun (l.length - 1) (by omega) (by omega)
    have hr : l.length - 1 ∈ Region.ready .any l.toArray listed := mem_ready.2 ⟨hzu, z, by simpa using hzl, fun e he hb => by
      have := ((lxB_spec hB).2 _ z hzl).1 e he hb
      rw [← getD_ft _ (by omega)]
      exact hall _ (by omega)⟩
    refine ⟨fun hnil => ?_, fun i hi => ?_⟩
    · rw [hnil] at hr
      cases hr
    · obtain ⟨hi0, o, ho, _⟩ := mem_ready.1 hi
      have hil : i < l.length := (List.getElem?_eq_some_iff.1 (show l[i]? = some o by simpa using ho)).1
      have : i = l.length - 1 := by
        rcases Nat.lt_or_ge i (l.length - 1) with h' | h'
        · rw [hall i h'] at hi0
          cases hi0
        · omega
      subst this
      have hoz : o = z := by
        have : l[l.length - 1]? = some o := by simpa using ho
        rw [hzl] at this
        injection this with this
        exact this.symm
      subst hoz
      have fin : ∀ a' w', wpList P l.toArray Q' [] a' w' → wpAny P .any l.toArray Q' 0 (listed.setIfInBounds (l.length - 1) true) a' w' := fun a' w' hq' => by
        refine ⟨?_, hq'⟩
        apply List.eq_nil_iff_forall_not_mem.2
        intro j hj
        obtain ⟨hj0, oj, hoj, _⟩ := mem_ready.1 hj
        have hjl : j < l.length := (List.getElem?_eq_some_iff.1 (show l[j]? = some oj by simpa using hoj)).1
        by_cases hne : l.length - 1 = j
        · subst hne
          simp [hs] at hj0
        · rw [getD_set_ne true hne, hall j (by omega)] at hj0
          cases hj0
      unfold wpOp
      simp only [ho]
      unfold wpList at hq
      split
      · rename_i hw
        rw [if_pos hw] at hq
        exact hq.imp (Oper.wp_mono fin) (fun h => h)
      · rename_i hw
        rw [if_neg hw] at hq
        exact fin _ _ hq
  · obtain ⟨_, a2, _⟩ := h2 it hit
    have a3 : it.1 < l.dropLast.length := (List.getElem?_eq_some_iff.1 (by simpa using a2)).1
    have a4 : it.1 < l.length - 1 := by simpa using a3
    have a5 : it.1 < l.length := by omega
    have a6 : (its 0 l.dropLast ss).length + 1 = l.length := by rw [h3]; simp; omega
    refine ⟨?_, by simp [a6, a5], a4⟩
    rw [← hdl _ a4]
    simpa using a2
  · obtain ⟨s, hs⟩ := h4 k o (by rw [hdl k hkT]; exact hk)
    exact ⟨s, by simpa using hs⟩
  · intro k o hk hl
    have a5 : k < l.length := (List.getElem?_eq_some_iff.1 hk).1
    have a6 : (its 0 l.dropLast ss).length + 1 = l.length := by rw [h3]; simp; omega
    simp [a6, a5] at hl
  · intro it hit S hS
    rcases (h2 it hit).2.2 with h' | h'
    · rw [hS] at h'
      cases h'
    · rw [hS] at h'
      exact hst S h'
/-- A region in the order of the text, or the beginning of one. -/
theorem cert_list {ops : Array Oper} {pre : Nat → Nat → Bool} (htr : ∀ X Y, R w0 X → R X Y → R w0 Y) {Q' : Exit → Act → World → Prop} {tail : List Oper} :
    ∀ (items : List (Nat × Oper × Spec)) (Fs : List (Nat × (World → Prop))) (a : Act) (X : World), (∀ it ∈ items, ∀ S, it.2.2 = some S → ∀ v X Y, S v X → R X Y → S v Y) →
      (∀ p F, (p, F) ∈ Fs → F X ∧ ∀ X Y, F X → R X Y → F Y) → R w0 X → Cert P ops R w0 (wpList P ops Q' tail) pre items Fs a → wpList P ops Q' (items.map (·.2.1) ++ tail) a X
  | [], Fs, a, X, _, hF, hX, h => h X hX fun p F hp => (hF p F hp).1
  | (k, o, s) :: items, Fs, a, X, hst, hF, hX, h => by
    have hst' : ∀ it ∈ items, ∀ S, it.2.2 = some S → ∀ v X Y, S v X → R X Y → S v Y := fun it hit => hst it (List.mem_cons_of_mem _ hit)
    have keep : ∀ X', R X X' → ∀ p F, (p, F) ∈ Fs → F X' ∧ ∀ X Y, F X → R X Y → F Y := fun X' hXX p F hm => ⟨(hF p F hm).2 X X' (hF p F hm).1 hXX, (hF p F hm).2⟩
    rw [List.map_cons, List.cons_append]
    unfold Cert at h
    unfold wpList
    split
    · rename_i hw
      rw [if_pos hw] at h
      refine .inl ?_
      cases s with
      | none =>
        obtain ⟨v, hq, hc⟩ := h
        have hq := hq X hX fun p F hm _ => (hF p F hm).1
        unfold quietR at hq
        unfold Oper.wp
        simp only
        generalize (execOp a.eval o).run P X = r at hq ⊢
        cases r with
        | ok n w' =>
          cases n <;> simp only [Oper.upon] at hq ⊢
          case value u => obtain ⟨rfl, rfl⟩ := hq; exact cert_list htr items Fs _ _ hst' hF hX hc
          case skip => obtain ⟨rfl, rfl⟩ := hq; exact cert_list htr items Fs _ _ hst' hF hX hc
          case enter f args =>
            obtain ⟨rfl, _, hcall⟩ := hq
            exact hcall.mono fun e w'' ⟨he, hR⟩ => by subst he; exact cert_list htr items Fs _ _ hst' (keep _ hR) (htr _ _ hX hR) hc
        | halt x w' => exact hq.elim
      | some S =>
        obtain ⟨hq, hc⟩ := h
        have hq := hq X hX fun p F hm _ => (hF p F hm).1
        have hS := hst _ List.mem_cons_self S rfl
        have fin : ∀ v X', S v X' ∧ R X X' → wpList P ops Q' (items.map (·.2.1) ++ tail) (a.put o.dst v) X' := fun v X' ⟨h1, h2⟩ =>
          cert_list htr items ((k, S v) :: Fs) _ _ hst' (fun p F hm => by
            rcases List.mem_cons.1 hm with heq | hm
            · injection heq with e1 e2
              subst e2
              exact ⟨h1, fun X Y => hS v X Y⟩
            · exact keep _ h2 p F hm) (htr _ _ hX h2) (hc v)
        unfold runsR at hq
        unfold Oper.wp
        simp only
        generalize (execOp a.eval o).run P X = r at hq ⊢
        cases r with
        | ok n w' =>
          cases n <;> simp only [Oper.upon] at hq ⊢
          case value u => exact fin _ _ hq
          case skip => exact fin _ _ hq
          case enter f args =>
            exact hq.mono fun e w'' ⟨v, he, h2⟩ => by subst he; exact fin _ _ h2
        | halt x w' => exact hq.elim
    · rename_i hw
      rw [if_neg hw] at h
      exact cert_list htr items Fs _ _ hst' hF hX h

theorem its_ops : ∀ (k : Nat) (l : List Oper) (ss : List Spec), (its k l ss).map (·.2.1) = l
  | _, [], _ => by unfold its; rfl
  | k, o :: l, [] => by unfold its; rw [List.map_cons, its_ops (k + 1) l []]
  | k, o :: l, s :: ss => by unfold its; rw [List.map_cons, its_ops (k + 1) l ss]

/-- The same for a region that does not draw; 'l1' is the part that is walked so. -/
theorem cert_plain {id : Nat} {Q' : Exit → Act → World → Prop} {a : Act} {w : World} {pre : Nat → Nat → Bool} (l1 l2 : List Oper) (ss : List Spec) (hl : l = l1 ++ l2) (h0 : R w0 w) (htr : ∀ X Y, R w0 X → R X Y → R w0 Y)
    (hst : ∀ S, some S ∈ ss → ∀ v X Y, S v X → R X Y → S v Y) (h : Cert P l.toArray R w0 (wpList P l.toArray Q' l2) pre (its 0 l1 ss) [] a) : (Code.region id l.toArray false).wp P Q' a w := by
  refine wp_region_lit ?_
  have hq := cert_list (tail := l2) htr (its 0 l1 ss) [] a w (fun it hit S hS => by
    rcases ((its_mem 0 l1 ss).2.1 it hit).2.2 with h' | h'
    · rw [hS] at h'
      cases h'
    · rw [hS] at h'
      exact hst S h') (fun p F hp => by cases hp) h0 h
  rw [its_ops, ← hl] at hq
  exact hq
end

/-! ### One operation at a time -/
section
variable {P : Program} {ops : Array Oper} {R : World → World → Prop} {w0 : World} {Q : Act → World → Prop} {pre : Nat → Nat → Bool} {a : Act} {k : Nat} {o : Oper} {l : List (Nat × Oper × Spec)} {Fs : List (Nat × (World → Prop))}

/-- A value that is one and the same in every world. -/
theorem lx_val (hw : Region.wanted o (yielded ops a.tmps) = true) (v : Value) (hq : ∀ X : World, R w0 X → (∀ p F, (p, F) ∈ Fs → pre k p = true → F X) → (execOp a.eval o).run P X = .ok (.value v) X)
    (h : Cert P ops R w0 Q pre l Fs (a.put o.dst v)) : Cert P ops R w0 Q pre ((k, o, none) :: l) Fs a := by
  unfold Cert
  rw [if_pos hw]
  refine ⟨v, fun X hX hF => ?_, h⟩
  unfold quietR
  rw [hq X hX hF]
  exact ⟨rfl, rfl⟩
/-- A call that hands back one and the same value. -/
theorem lx_call (hw : Region.wanted o (yielded ops a.tmps) = true) (f : FuncId) (xs : List Operand) (ts : Array TypeId) (ho : o.op = .call { callee := .value (.func f), args := xs.toArray, argTypes := ts }) (v : Value) (args : List Value) (he : xs.map a.eval = args)
    (hi : P.inits.idxOf? f = none) (hf : ∀ X : World, (callFunc f args.toArray).run P X = .ok (.enter f args.toArray) X)
    (hc : ∀ X, R w0 X → (∀ p F, (p, F) ∈ Fs → pre k p = true → F X) → Calls P f args.toArray X fun e X' => e = .returned v ∧ R X X') (h : Cert P ops R w0 Q pre l Fs (a.put o.dst v)) : Cert P ops R w0 Q pre ((k, o, none) :: l) Fs a := by
  unfold Cert
  rw [if_pos hw]
  refine ⟨v, fun X hX hF => ?_, h⟩
  have hc := hc X hX hF
  have he2 : xs.toArray.map a.eval = args.toArray := by rw [List.map_toArray, he]
  have hrun : (execOp a.eval o).run P X = .ok (.enter f args.toArray) X := by
    unfold execOp
    rw [ho]
    have hfX := hf X
    go_simp
  unfold quietR
  rw [hrun]
  exact ⟨rfl, hi, hc⟩
/-- A call that hands back what has a law. -/
theorem lx_make {S : Value → World → Prop} (hw : Region.wanted o (yielded ops a.tmps) = true) (f : FuncId) (xs : List Operand) (ts : Array TypeId) (ho : o.op = .call { callee := .value (.func f), args := xs.toArray, argTypes := ts }) (args : List Value) (he : xs.map a.eval = args)
    (hf : ∀ X : World, (callFunc f args.toArray).run P X = .ok (.enter f args.toArray) X)
    (hc : ∀ X, R w0 X → (∀ p F, (p, F) ∈ Fs → pre k p = true → F X) → Calls P f args.toArray X fun e X' => ∃ v, e = .returned v ∧ S v X' ∧ R X X') (h : ∀ v, Cert P ops R w0 Q pre l ((k, S v) :: Fs) (a.put o.dst v)) : Cert P ops R w0 Q pre ((k, o, some S) :: l) Fs a := by
  unfold Cert
  rw [if_pos hw]
  refine ⟨fun X hX hF => ?_, h⟩
  have hc := hc X hX hF
  have he2 : xs.toArray.map a.eval = args.toArray := by rw [List.map_toArray, he]
  have hrun : (execOp a.eval o).run P X = .ok (.enter f args.toArray) X := by
    unfold execOp
    rw [ho]
    have hfX := hf X
    go_simp
  unfold runsR
  rw [hrun]
  exact hc
/-- An operation whose value has a law. -/
theorem lx_new {S : Value → World → Prop} (hw : Region.wanted o (yielded ops a.tmps) = true) (hq : ∀ X : World, R w0 X → (∀ p F, (p, F) ∈ Fs → pre k p = true → F X) → ∃ v X', (execOp a.eval o).run P X = .ok (.value v) X' ∧ S v X' ∧ R X X')
    (h : ∀ v, Cert P ops R w0 Q pre l ((k, S v) :: Fs) (a.put o.dst v)) : Cert P ops R w0 Q pre ((k, o, some S) :: l) Fs a := by
  unfold Cert
  rw [if_pos hw]
  refine ⟨fun X hX hF => ?_, h⟩
  obtain ⟨v, X', hr, h1, h2⟩ := hq X hX hF
  unfold runsR
  rw [hr]
  exact ⟨h1, h2⟩
/-- A guarded operation that does not come up. -/
theorem lx_skip {s : Spec} (hw : Region.wanted o (yielded ops a.tmps) = false) (h : Cert P ops R w0 Q pre l Fs (a.put o.dst undef)) : Cert P ops R w0 Q pre ((k, o, s) :: l) Fs a := by
  unfold Cert
  rw [if_neg (by rw [hw]; exact Bool.false_ne_true)]
  exact h
theorem lx_nil (h : ∀ X, R w0 X → (∀ p F, (p, F) ∈ Fs → F X) → Q a X) : Cert P ops R w0 Q pre [] Fs a := h
end
end Go.Proofs.YtmmomcililideaaDoor
