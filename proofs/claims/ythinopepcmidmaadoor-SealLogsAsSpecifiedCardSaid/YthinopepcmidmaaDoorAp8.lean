/-
  'append(b, x)' of one byte, the new slice laid open; a part of a slice.
-/
import Derived.Test.YthinopepcmidmaaDoorWk02a
import Derived.Test.YthinopepcmidmaaDoorMA
set_option linter.unusedSimpArgs false
set_option linter.unusedVariables false
set_option maxRecDepth 100000
set_option maxHeartbeats 1600000
namespace Go.Proofs.YthinopepcmidmaaDoor
open Go.RowKit
theorem own_nil (w : World) (B : Nat) (e : TypeId) : w.ownsRow B e 1 (.slice none 0 0) 0 [] := ⟨rfl, .inl ⟨rfl, rfl⟩⟩
theorem app8 {w : World} {ops : Array Oper} {rest : List Oper} {o : Oper} {a : Act} {Q : Exit → Act → World → Prop} {u : Value} {tb : TypeId} (hgd : o.guard = none) {s x : Operand}
    (ho : o.op = .call { callee := .builtin .append, args := #[s, x], argTypes := #[69, 69] })
    (base : Nat) (v : Value) (n : Nat) (xs : List Value) (hs : a.eval s = v) (hown : w.ownsRow base 5 1 v n xs)
    (hx : a.eval x = .slice (some ⟨w.heap.size, 0, none⟩) 1 1) (h1 : u.oneCell' = true) (hn : n + 1 ≤ 140737488355328) (hbase : base ≤ w.heap.size)
    (h : ∀ A' c' w', w'.ownsRow base 5 1 (.slice A' (n + 1) c') (n + 1) (xs ++ [u]) → n + 1 ≤ c' → c' ≤ maxLen → Below base w w' → wpList Tryd.prog ops Q rest (a.put o.dst (.slice A' (n + 1) c')) w') :
    wpList Tryd.prog ops Q (o :: rest) a (w.alloc (.cells #[u] tb)) := by
  refine append_one u tb hgd s x 69 ho base 5 _ 1 Tryd.underlying69 info_u8 rfl v n xs hs hown hx h1 (by omega) (by unfold maxLen; omega) hbase ?_
  intro v' w' h2 _ h4
  have hR := Rd.of_own h2
  obtain ⟨A', c', rfl, h5, h6⟩ := hR.form
  exact h A' c' w' h2 h5 h6 h4
/-- A part of a slice. -/
theorem Rd.part {w : World} {b off n c : Nat} {xs : List Value} (h : Rd w 1 (.slice (some ⟨b, off, none⟩) n c) n xs) {k m : Nat} (hm : 0 < m) (hk : k + m ≤ n) :
    Rd w 1 (.slice (some ⟨b, off + k, none⟩) m (c - k)) m ((xs.drop k).take m) := by
  obtain ⟨hl, A', c', hv, hc, hmx, hz, hr⟩ := h
  injection hv with h1 h2 h3
  subst h1 h3
  obtain ⟨b', off', hA, hb, hx⟩ := hr (by omega)
  injection hA with hA
  injection hA with e1 e2 e3
  subst e1 e2
  refine ⟨by rw [List.length_take, List.length_drop]; omega, _, _, rfl, by omega, by omega, (fun h => by cases h), fun _ => ⟨b, off + k, rfl, hb, fun j u hj => ?_⟩⟩
  rw [List.getElem?_take] at hj
  split at hj
  · rw [List.getElem?_drop] at hj
    rw [Nat.add_assoc]
    exact hx _ u hj
  · cases hj
theorem take_snoc {α : Type} {l : List α} {k : Nat} (h : k < l.length) : l.take (k + 1) = l.take k ++ [l[k]] := (List.take_append_getElem h).symm
/-- 'op_store_new', the block's number told beside. -/
theorem op_store_at {P : Program} {ops : Array Oper} {rest : List Oper} {o : Oper} {a : Act} {Q : Exit → Act → World → Prop} (w0 : World) (old : Array Value) (t : TypeId) (g : Nat) (hg : g = w0.heap.size) (hgd : o.guard = none) (ty : TypeId) (p x : Operand) (ho : o.op = .store ty p x) (hp : a.eval p = .pointer (some ⟨g, 0, none⟩)) (cs : Array Value)
    (hx : a.eval x = .agg cs) (hs : cs.size = old.size) (h1 : ∀ v ∈ cs.toList, v.oneCell' = true) (hi : (P.info? ty).map (·.size) = some cs.size)
    (h : wpList P ops Q rest (a.put o.dst undef) (w0.alloc (.cells cs t))) : wpList P ops Q (o :: rest) a (w0.alloc (.cells old t)) := by
  subst hg
  exact op_store_new w0 old t hgd ty p x ho hp cs hx hs h1 hi h
theorem drop_take {α : Type} {l r : List α} {k : Nat} {x : α} (h : l.drop k = x :: r) : l.take (k + 1) = l.take k ++ [x] := by
  have hk : k < l.length := by
    rcases Nat.lt_or_ge k l.length with h' | h'
    · exact h'
    · rw [List.drop_eq_nil_of_le h'] at h; cases h
  rw [List.drop_eq_getElem_cons hk] at h
  injection h with h _
  rw [← List.take_append_getElem hk, h]
end Go.Proofs.YthinopepcmidmaaDoor
