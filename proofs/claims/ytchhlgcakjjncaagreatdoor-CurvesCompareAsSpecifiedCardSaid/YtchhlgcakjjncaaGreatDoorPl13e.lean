/-
  Plain law of curves: the intervals in which two curves differ hold just the stages at which they do, and ascend.
-/
import Derived.Test.YtchhlgcakjjncaaGreatDoorPl13
set_option linter.unusedSimpArgs false
set_option linter.unusedVariables false
set_option maxRecDepth 100000
set_option maxHeartbeats 1600000
namespace Go.Proofs.YtchhlgcakjjncaaGreatDoor
/-- One more stage: the last interval grows, or a new one begins. -/
def dfS (o : List (Int × Int)) (s : Int) : List (Int × Int) :=
  match o.getLast? with
  | none => [(s, s)]
  | some x => if x.2 = s - 1 then o.dropLast ++ [(x.1, s)] else o ++ [(s, s)]
/-- The intervals of the first stages. -/
def dfl (L M : List Kn) : Nat → List (Int × Int)
  | 0 => []
  | k + 1 => if flowAt L (-1000 + (k : Int)) = flowAt M (-1000 + (k : Int)) then dfl L M k else dfS (dfl L M k) (-1000 + (k : Int))
theorem dfS_len (o : List (Int × Int)) (s : Int) : (dfS o s).length ≤ o.length + 1 := by
  unfold dfS
  split
  · simp
  · split
    · simp
    · simp
theorem dfl_len (L M : List Kn) : ∀ k, (dfl L M k).length ≤ k
  | 0 => Nat.le_refl _
  | k + 1 => by
    have h1 := dfl_len L M k
    unfold dfl
    split
    · omega
    · have h2 := dfS_len (dfl L M k) (-1000 + (k : Int))
      omega
theorem dfS_nil (s : Int) : dfS [] s = [(s, s)] := rfl
theorem dfS_grow (o : List (Int × Int)) (x : Int × Int) {s : Int} (h : x.2 = s - 1) : dfS (o ++ [x]) s = o ++ [(x.1, s)] := by
  unfold dfS
  simp [h]
theorem dfS_new (o : List (Int × Int)) (x : Int × Int) {s : Int} (h : x.2 ≠ s - 1) : dfS (o ++ [x]) s = o ++ [x] ++ [(s, s)] := by
  unfold dfS
  simp [h]
end Go.Proofs.YtchhlgcakjjncaaGreatDoor
namespace Go.Proofs.YtchhlgcakjjncaaGreatDoor
/-- What the intervals of the first stages are. -/
structure DfOk (L M : List Kn) (k : Nat) (o : List (Int × Int)) : Prop where
  rng : ∀ x ∈ o, -1000 ≤ x.1 ∧ x.1 ≤ x.2 ∧ x.2 < -1000 + (k : Int)
  asc : o.Pairwise fun x y => x.2 + 1 < y.1
  all : ∀ s : Int, -1000 ≤ s → s < -1000 + (k : Int) → ((∃ x ∈ o, x.1 ≤ s ∧ s ≤ x.2) ↔ flowAt L s ≠ flowAt M s)
theorem dfl_ok (L M : List Kn) : ∀ k, DfOk L M k (dfl L M k)
  | 0 => ⟨fun x hx => by simp [dfl] at hx, List.Pairwise.nil, fun s h1 h2 => by omega⟩
  | k + 1 => by
    have ih := dfl_ok L M k
    unfold dfl
    split
    · rename_i he
      refine ⟨fun x hx => by have := ih.rng x hx; omega, ih.asc, fun s h1 h2 => ?_⟩
      rcases Int.lt_or_le s (-1000 + (k : Int)) with h3 | h3
      · exact ih.all s h1 h3
      · obtain rfl : s = -1000 + (k : Int) := by omega
        exact ⟨fun ⟨x, hx, h4⟩ => absurd (ih.rng x hx).2.2 (by omega), fun h => absurd he h⟩
    · rename_i he
      generalize hs : -1000 + (k : Int) = s at *
      rcases List.eq_nil_or_concat (dfl L M k) with h0 | ⟨o, x, h0⟩
      · rw [h0] at ih ⊢
        rw [dfS_nil]
        refine ⟨fun x hx => ?_, List.pairwise_singleton _ _, fun t h1 h2 => ?_⟩
        · rw [List.mem_singleton] at hx
          subst hx
          exact ⟨by omega, Int.le_refl _, by show s < _; omega⟩
        · rcases Int.lt_or_le t s with h3 | h3
          · rw [← ih.all t h1 (by omega)]
            exact ⟨fun ⟨x, hx, h4⟩ => by rw [List.mem_singleton] at hx; subst hx; exact absurd h4.1 (by show ¬ s ≤ t; omega), fun ⟨x, hx, _⟩ => by simp at hx⟩
          · obtain rfl : t = s := by omega
            exact ⟨fun _ => he, fun _ => ⟨_, List.mem_singleton.2 rfl, Int.le_refl _, Int.le_refl _⟩⟩
      · rw [List.concat_eq_append] at h0
        rw [h0] at ih ⊢
        have hx := ih.rng x (by simp)
        have hp := List.pairwise_append.1 ih.asc
        by_cases hg : x.2 = s - 1
        · rw [dfS_grow o x hg]
          refine ⟨fun y hy => ?_, List.pairwise_append.2 ⟨hp.1, List.pairwise_singleton _ _, fun a ha b hb => ?_⟩, fun t h1 h2 => ?_⟩
          · rcases List.mem_append.1 hy with h3 | h3
            · have := ih.rng y (List.mem_append.2 (.inl h3))
              omega
            · rw [List.mem_singleton] at h3
              subst h3
              exact ⟨hx.1, by show x.1 ≤ s; omega, by show s < _; omega⟩
          · rw [List.mem_singleton] at hb
            subst hb
            exact hp.2.2 a ha x (by simp)
          · rcases Int.lt_or_le t s with h3 | h3
            · rw [← ih.all t h1 (by omega)]
              constructor
              · rintro ⟨y, hy, h4⟩
                rcases List.mem_append.1 hy with h5 | h5
                · exact ⟨y, List.mem_append.2 (.inl h5), h4⟩
                · rw [List.mem_singleton] at h5
                  subst h5
                  exact ⟨x, by simp, h4.1, by omega⟩
              · rintro ⟨y, hy, h4⟩
                rcases List.mem_append.1 hy with h5 | h5
                · exact ⟨y, List.mem_append.2 (.inl h5), h4⟩
                · rw [List.mem_singleton] at h5
                  subst h5
                  exact ⟨(y.1, s), by simp, h4.1, by show t ≤ s; omega⟩
            · obtain rfl : t = s := by omega
              exact ⟨fun _ => he, fun _ => ⟨(x.1, t), by simp, by show x.1 ≤ t; omega, Int.le_refl _⟩⟩
        · rw [dfS_new o x hg]
          refine ⟨fun y hy => ?_, List.pairwise_append.2 ⟨ih.asc, List.pairwise_singleton _ _, fun a ha b hb => ?_⟩, fun t h1 h2 => ?_⟩
          · rcases List.mem_append.1 hy with h3 | h3
            · have := ih.rng y h3
              omega
            · rw [List.mem_singleton] at h3
              subst h3
              exact ⟨by show -1000 ≤ s; omega, Int.le_refl _, by show s < _; omega⟩
          · rw [List.mem_singleton] at hb
            subst hb
            show a.2 + 1 < s
            rcases List.mem_append.1 ha with h3 | h3
            · have := hp.2.2 a h3 x (by simp)
              omega
            · rw [List.mem_singleton] at h3
              subst h3
              omega
          · rcases Int.lt_or_le t s with h3 | h3
            · rw [← ih.all t h1 (by omega)]
              constructor
              · rintro ⟨y, hy, h4⟩
                rcases List.mem_append.1 hy with h5 | h5
                · exact ⟨y, h5, h4⟩
                · rw [List.mem_singleton] at h5
                  subst h5
                  exact absurd h4.1 (by show ¬ s ≤ t; omega)
              · rintro ⟨y, hy, h4⟩
                exact ⟨y, List.mem_append.2 (.inl hy), h4⟩
            · obtain rfl : t = s := by omega
              exact ⟨fun _ => he, fun _ => ⟨(t, t), by simp, Int.le_refl _, Int.le_refl _⟩⟩
/-- The reference's way: a stage at which they differ grows the last interval if they differ at the stage before. -/
theorem dfl_grow {L M : List Kn} {k : Nat} (h : flowAt L (-1000 + (k : Int)) ≠ flowAt M (-1000 + (k : Int))) (hk : 0 < k) (hp : flowAt L (-1000 + (k : Int) - 1) ≠ flowAt M (-1000 + (k : Int) - 1)) : ∃ o x, dfl L M k = o ++ [x] ∧ dfl L M (k + 1) = o ++ [(x.1, -1000 + (k : Int))] := by
  have ih := dfl_ok L M k
  obtain ⟨y, hy, h1, h2⟩ := (ih.all (-1000 + (k : Int) - 1) (by omega) (by omega)).2 hp
  rcases List.eq_nil_or_concat (dfl L M k) with h0 | ⟨o, x, h0⟩
  · rw [h0] at hy
    simp at hy
  · rw [List.concat_eq_append] at h0
    refine ⟨o, x, h0, ?_⟩
    have hx2 : x.2 = -1000 + (k : Int) - 1 := by
      rw [h0] at ih hy
      have hx := ih.rng x (by simp)
      rcases List.mem_append.1 hy with h3 | h3
      · have := (List.pairwise_append.1 ih.asc).2.2 y h3 x (by simp)
        omega
      · rw [List.mem_singleton] at h3
        subst h3
        omega
    show (if _ then _ else _) = _
    rw [if_neg h, h0, dfS_grow o x hx2]
theorem dfl_new {L M : List Kn} {k : Nat} (h : flowAt L (-1000 + (k : Int)) ≠ flowAt M (-1000 + (k : Int))) (hp : k = 0 ∨ flowAt L (-1000 + (k : Int) - 1) = flowAt M (-1000 + (k : Int) - 1)) : dfl L M (k + 1) = dfl L M k ++ [(-1000 + (k : Int), -1000 + (k : Int))] := by
  have ih := dfl_ok L M k
  show (if _ then _ else _) = _
  rw [if_neg h]
  rcases List.eq_nil_or_concat (dfl L M k) with h0 | ⟨o, x, h0⟩
  · rw [h0]
    rfl
  · rw [List.concat_eq_append] at h0
    rw [h0] at ih ⊢
    refine dfS_new o x fun hx2 => ?_
    have hx := ih.rng x (by simp)
    rcases hp with h1 | h1
    · omega
    · exact (ih.all (-1000 + (k : Int) - 1) (by omega) (by omega)).1 ⟨x, by simp, by omega, by omega⟩ h1
theorem dfl_same {L M : List Kn} {k : Nat} (h : flowAt L (-1000 + (k : Int)) = flowAt M (-1000 + (k : Int))) : dfl L M (k + 1) = dfl L M k := by
  show (if _ then _ else _) = _
  rw [if_pos h]
end Go.Proofs.YtchhlgcakjjncaaGreatDoor
