/-
  'append(s[:n:n], x...)': a slice without room is copied.
-/
import Derived.Test.YtmmomcililideaaDoorAg
set_option linter.unusedSimpArgs false
set_option linter.unusedVariables false
namespace Go.Proofs.YtmmomcililideaaDoor
open Go.RowKit

theorem append_cp {P : Program} {w : World} {ops : Array Oper} {rest : List Oper} {o : Oper} {a : Act} {Q : Exit → Act → World → Prop} (hgd : o.guard = none) (s x : Operand) (t : TypeId)
    (ho : o.op = .call { callee := .builtin .append, args := #[s, x], argTypes := #[t, t] })
    (e : TypeId) (z : Value) (size bytes : Nat) (ht : P.underlying t = some (.slice e)) (hi : (P.info? e).map (fun i => (i.zero, i.size, i.bytes)) = some (some z, size, bytes))
    (hz1 : z.cells.size = size) (hsz0 : 0 < size) (A : Option Addr) (n : Nat) (xs : List Value) (hs : a.eval s = .slice A n n) (hrs : Rd w size (.slice A n n) n xs)
    (vx : Value) (m : Nat) (news : List Value) (hx : a.eval x = vx) (hr : Rd w size vx m news) (h1 : ∀ u ∈ news, u.oneCell' = true)
    (hbytes : (n + m) * bytes ≤ 140737488355328) (h63 : n + m ≤ maxLen)
    (h : ∀ A' c' w', Rd w' size (.slice A' (n + m) c') (n + m) (xs ++ news) → Below w.heap.size w w' → wpList P ops Q rest (a.put o.dst (.slice A' (n + m) c')) w') :
    wpList P ops Q (o :: rest) a w := by
  obtain ⟨i, hi', hz0, hsz, hby⟩ := info_parts hi
  obtain ⟨hl, A', c, rfl, hc, hm, hz, hcell⟩ := hr
  rcases Nat.eq_zero_or_pos m with h0 | h0
  · subst h0
    have hn : news = [] := List.eq_nil_of_length_eq_zero (by simpa using hl)
    subst hn
    have hrun : (Builtin.append_ #[t, t] o.type #[.slice A n n, .slice A' 0 c]).run P w = .ok (.slice A n n) w := by
      cases A <;> cases A' <;> simp [Builtin.append_, run_underlying ht, sizeOf, typeInfo, hi', Builtin.lenOf, Builtin.firstCells, storeCells, loadCells, loadCellsFrom]
    refine wpList_plain hgd fun K hK => ?_
    unfold Oper.wp execOp
    simp only [ho, resolve, invoke, builtin, Sem.run_bind, Sem.run_pure, Result.andThen_ok, List.map_toArray, List.map_cons, List.map_nil, hs, hx, hrun]
    exact hK _ _ (h A n w (by simpa using hrs) (Below.refl _ _))
  · obtain ⟨b, off, rfl, hb, hcs⟩ := hcell h0
    obtain ⟨hl2, A2, c2, hv2, _, _, hz2, hcell2⟩ := hrs
    injection hv2 with e1 e2 e3
    subst e1
    refine wpList_append_grows w hgd s x t ho e i z size bytes ht hi' hz0 hsz hby hz1 hsz0 A n n xs hs (fun hA => by have := hz2 hA; omega) hl2 (fun ad hA j u hj => ?_) ⟨b, off, none⟩ m c news hx hl (fun j u hj => ?_) h1 (by omega) h63 hbytes ?_
    · have hn0 : 0 < n := by
        rcases Nat.eq_zero_or_pos n with h' | h'
        · subst h'
          have : xs = [] := List.eq_nil_of_length_eq_zero (by simpa using hl2)
          subst this
          simp at hj
        · exact h'
      obtain ⟨b2, off2, hA2, _, hc2⟩ := hcell2 hn0
      rw [hA2] at hA
      injection hA with hA
      subst hA
      have e : (⟨b2, off2, none⟩ : Addr).add j = ⟨b2, off2 + j, none⟩ := by unfold Addr.add; split <;> simp_all
      rw [e]
      exact hc2 j u hj
    · have e : (⟨b, off, none⟩ : Addr).add j = ⟨b, off + j, none⟩ := by unfold Addr.add; split <;> simp_all
      rw [e]
      exact hcs j u hj
    · intro v' w' h2 h3
      have hR := Rd.of_own h2
      obtain ⟨A3, c3, rfl, _, _⟩ := hR.form
      exact h A3 c3 w' hR ((Below.refl _ _).grown h3 (Nat.le_refl _) (fun k hk => by cases hk))

/-- 's[:n:n]'. -/
theorem Rd.fit {w : World} {m n c : Nat} {A : Option Addr} {xs : List Value} (h : Rd w m (.slice A n c) n xs) (hn : 0 < n) : Rd w m (.slice A n n) n xs := by
  obtain ⟨hl, A', c', hv, hc, hm, hz, hr⟩ := h
  injection hv with h1 h2 h3
  subst h1 h3
  refine ⟨hl, A, n, rfl, Nat.le_refl _, by omega, fun hA => ?_, hr⟩
  obtain ⟨b, off, h', _⟩ := hr hn
  rw [h'] at hA
  cases hA

theorem ret_true {p : Prop} [Decidable p] (h : p) : Ending.returned (.bool (decide p)) = .returned (.bool true) := by rw [decide_eq_true h]

/-- 's[:k]'. -/
theorem Rd.pre {w : World} {n c : Nat} {A : Option Addr} {xs : List Value} (h : Rd w 1 (.slice A n c) n xs) {k : Nat} (hk : k ≤ n) : Rd w 1 (.slice A k c) k (xs.take k) := by
  obtain ⟨hl, A', c', hv, hc, hm, hz, hr⟩ := h
  injection hv with h1 h2 h3
  subst h1 h3
  refine ⟨by simp; omega, A, c, rfl, by omega, hm, hz, fun hn => ?_⟩
  obtain ⟨b, off, hA, hb, hx⟩ := hr (by omega)
  refine ⟨b, off, hA, hb, fun j u hj => ?_⟩
  rw [List.getElem?_take] at hj
  split at hj
  · exact hx j u hj
  · cases hj
end Go.Proofs.YtmmomcililideaaDoor
